/- Parts: MCns. -/
import Derived.Test.YtafoknnjekegkaaGreatDoorLqG0MCnr
import Derived.Test.YtafoknnjekegkaaGreatDoorLqG0RfX
set_option maxRecDepth 10000
set_option maxHeartbeats 8000000
namespace Go.Proofs.YtafoknnjekegkaaGreatDoor
open Go.RowKit Go.Proofs.Tryz
variable {t s:abO}{v e:Int}{r q:Pk×Nat×Int}{a n:Nat}{A:Option Addr}{l:List Pr}
theorem So{k:Int}(he:e≠0):(fv v k t a e).2.2=e:=by
 unfold fv;rw[if_pos (.inr he)]
def rc1(v:Int)(s:abO):Pk×Nat×Int:=(xz (cnF v s).1 (cnK v s).1 (rtC s (cnP v s).2.1 (cnP v s).2.2).1 (cnP v s).1,(rtC s (cnP v s).2.1 (cnP v s).2.2).2.1,(rtC s (cnP v s).2.1 (cnP v s).2.2).2.2)
def RV(v:Int)(s:abO)(a:Nat)(e:Int):List Pr×Nat×Int:=fv v 16 s a e
def SE(v:Int)(s:abO)(a:Nat)(e:Int):abO×Nat×Int:=rtC s (RV v s a e).2.1 (RV v s a e).2.2
def Sm(v:Int)(s:abO)(a:Nat)(e:Int):abO×Nat×Int:=rbC s (SE v s a e).2.1 (SE v s a e).2.2
def rc2(v:Int)(s:abO)(r:Pk×Nat×Int):Pk×Nat×Int:=
 if r.1.hasWill=true then({r.1 with will:={r.1.will with props:=(RV v s r.2.1 r.2.2).1,topic:=(SE v s r.2.1 r.2.2).1,payload:=(Sm v s r.2.1 r.2.2).1}},(Sm v s r.2.1 r.2.2).2.1,(Sm v s r.2.1 r.2.2).2.2)else r
def rc3(s:abO)(r:Pk×Nat×Int):Pk×Nat×Int:=if r.1.hasUser=true then({r.1 with user:=(rtC s r.2.1 r.2.2).1},(rtC s r.2.1 r.2.2).2.1,(rtC s r.2.1 r.2.2).2.2)else r
def rc4(s:abO)(r:Pk×Nat×Int):Pk×Nat×Int:=if r.1.hasPass=true then({r.1 with pass:=(rbC s r.2.1 r.2.2).1},(rbC s r.2.1 r.2.2).2.1,(rbC s r.2.1 r.2.2).2.2)else r
def Rv(v:Int)(s:abO):Pk×Nat×Int:=rc4 s (rc3 s (rc2 v s (rc1 v s)))
structure Alike (s:abO) (r q:Pk×Nat×Int):Prop where
 err:r.2.2=q.2.2
 same:q.2.2=0->r=q
 will:r.1.hasWill=q.1.hasWill
 user:r.1.hasUser=q.1.hasUser
 pass:r.1.hasPass=q.1.hasPass
 le:q.2.1<=s.size
 le':r.2.1<=s.size
theorem Tr(he:e≠0):rtC t a e=(⟨#[]⟩,a,e):=if_pos he
theorem abC(he:e≠0):rbC t a e=(⟨#[]⟩,a,e):=if_pos he
theorem Sj(t:abO)(a:Nat)(e:Int)(h:a<=t.size):(fX t a e).2.1<=t.size:=pH t a e h
theorem Uf(x:Alike s r q):Alike s (rc4 s r) (cn4 s q):=by
 unfold rc4 cn4;by_cases b:q.1.hasPass=true
 ·rw[if_pos (x.pass.trans b),if_pos b];refine⟨?_,λc=>?_,x.will,x.user,x.pass,pH _ _ _ x.le,(Sn x.le').1⟩
  ·simp only;by_cases a:q.2.2=0
   ·rw[x.same a];exact(Fu x.le _).1
   ·rw[abC (by rw[x.err];exact a),yO a,x.err]
  ·simp only at c⊢;have a:q.2.2=0:=(xC c).1;rw[x.same a,(Fu x.le _).2 c]
 ·rw[Fl (λy=>b (x.pass.symm.trans y)),Fl b];exact x
theorem Ug(x:Alike s r q):Alike s (rc3 s r) (cn3 s q):=by
 unfold rc3 cn3;by_cases b:q.1.hasUser=true
 ·rw[if_pos (x.user.trans b),if_pos b];refine⟨?_,λc=>?_,x.will,x.user,x.pass,Sj _ _ _ x.le,(uD x.le').1⟩
  ·simp only;by_cases a:q.2.2=0
   ·rw[x.same a];exact(Fq x.le _).1
   ·rw[Tr (by rw[x.err];exact a),xP a,x.err]
  ·simp only at c⊢;have a:q.2.2=0:=(sC c).1;rw[x.same a,(Fq x.le _).2 c]
 ·rw[Fl (λy=>b (x.user.symm.trans y)),Fl b];exact x
theorem Uh(x:Alike s r q):Alike s (rc2 v s r) (cn2 v s q):=by
 unfold rc2 cn2;by_cases d:q.1.hasWill=true
 ·rw[if_pos (x.will.trans d),if_pos d];have g:=Ec v 16 q.2.2 x.le;have j:=Sj s _ (fv v 16 s q.2.1 q.2.2).2.2 g;refine⟨?_,λe=>?_,x.will,x.user,x.pass,pH _ _ _ (Sj _ _ _ (Ec _ _ _ x.le)),(Sn (uD (Ec _ _ _ x.le')).1).1⟩
  ·simp only;by_cases b:q.2.2=0
   ·rw[x.same b];unfold Sm Aw SE rz RV ZK;obtain⟨h,m⟩:=Fq g (fv v 16 s q.2.1 q.2.2).2.2;by_cases f:(fX s (fv v 16 s q.2.1 q.2.2).2.1 (fv v 16 s q.2.1 q.2.2).2.2).2.2=0
    ·rw[m f];exact(Fu j _).1
    ·rw[abC (by rw[h];exact f),yO f,h]
   ·unfold Sm Aw SE rz RV ZK;have c:r.2.2≠0:=by rw[x.err];exact b
    have b1:(fv v 16 s q.2.1 q.2.2).2.2=q.2.2:=So b;have b2:(fv v 16 s r.2.1 r.2.2).2.2=r.2.2:=So c;rw[b1,b2];have l:=xP (t:=s) (a:=(fv v 16 s q.2.1 q.2.2).2.1) b;rw[Tr c];simp only;rw[abC c,l,yO b,x.err]
  ·simp only at e⊢;unfold Sm SE RV Aw rz ZK at*;have k:=(xC e).1;have n:=(sC k).1;have b:q.2.2=0:=Decidable.byContradiction λi=>i ((So i).symm.trans n);rw[x.same b,(Fq g _).2 k,(Fu j _).2 e]
 ·rw[Fl (λy=>d (x.will.symm.trans y)),Fl d];exact x
theorem Tc(v:Int)(s:abO):(cnP v s).2.1<=s.size:=
 Ec _ _ _ (dy (dy (dy (dy (ag _) _ _) _ _) _ _) _ _)
theorem Ui(v:Int)(s:abO):Alike s (rc1 v s) (cn1 v s):=by
 obtain⟨a,b⟩:=Fq (Tc v s) (cnP v s).2.2;refine⟨a,λc=>?_,rfl,rfl,rfl,Sj _ _ _ (Tc v s),(uD (Tc v s)).1⟩;have d:=b c;unfold rc1;rw[d];rfl
theorem Un(v:Int)(s:abO):Alike s (Rv v s) (jS v s):=Uf (Ug (Uh (Ui v s)))
theorem Tb(x:Alike s r q):jT v s r=jT v s q:=by
 by_cases a:q.2.2=0
 ·rw[x.same a]
 ·have b:r.2.2≠0:=by rw[x.err];exact a
  have g:∀z:Pk×Nat×Int,z.2.2≠0->oV s z=z.2.2:=λz c=>by
   unfold oV;split
   ·rfl
   ·exact Fl c
  unfold jT;rw[g r b,g q a,if_pos b,if_pos a,x.err]
theorem Tx{k:Int}(h:YG v=true)(hk:gm k=true):iB v k s=jT v s (if k=1 then Rv v s else lL v s):=by
 unfold iB;rw[Fl (λy=>by rw[h,hk]at y;cases y<;>contradiction)];by_cases a:k=1
 ·rw[if_pos a,if_pos a];exact(Tb (Un v s)).symm
 ·rw[Fl a,Fl a]
section
structure CQ (w:abP) (gc:Nat) (p:Pk) (h:Hs) (t:abO) (a:Nat) (e:Int) (x:abP):Prop where
 mods:w.grownBy x (some gc)
 cur:IC x gc t a e
 res:Bk x w.heap.size PkT (pkC pk0 hs0)
 pk:Bk x (w.heap.size+1) PkT (pkC p h)
 into:PkIn x x.heap.size p h
 flat:p.codes=[]/\p.filters=[]
 lt:gc<w.heap.size
section
variable {w x y:abP} {gc:Nat} {p p':Pk} {h h':Hs} {t:abO} {a a':Nat} {e e':Int}
theorem CQ.below(c:CQ w gc p h t a e x)(hb:abQ x y):CQ w gc p h t a e y:=
 ⟨c.mods.trans (Y7 hb _),c.cur.below hb,Yh c.res hb,Yh c.pk hb,c.into.next hb,c.flat,c.lt⟩
theorem CQ.turn(c:CQ w gc p h t a e x)(hc:IC y gc t a' e')(hm:x.grownBy y (some gc)):CQ w gc p h t a' e' y:=
 ⟨c.mods.trans hm,hc,c.res.mods (S:=λz=>z=gc) (qb hm rfl) (by have:=c.lt;omega),c.pk.mods (S:=λz=>z=gc) (qb hm rfl) (by have:=c.lt;omega),
  c.into.blk c.flat.1 c.flat.2 c.cur.1 (Io _ _ _) hm,c.flat,c.lt⟩
theorem CQ.put(c:CQ w gc p h t a e x)(i:Nat)(u:Value)(he:(pkC p h).setIfInBounds i u=pkC p' h')(hf:p'.codes=[]/\p'.filters=[])
  (hi:PkIn (x.setCell ⟨w.heap.size+1,i,none⟩ u) (x.setCell ⟨w.heap.size+1,i,none⟩ u).heap.size p' h'):CQ w gc p' h' t a e (x.setCell ⟨w.heap.size+1,i,none⟩ u):=
 ⟨Ae c.mods (by omega) i u,⟨c.cur.1.other (by have:=c.lt;simp;omega) u,c.cur.2⟩,c.res.other (by simp) u,c.pk.upd i u he,hi,hf,c.lt⟩
theorem CQ.set(c:CQ w gc p h t a e x)(i:Nat)(u:Value)(he:(pkC p h).setIfInBounds i u=pkC p' h)(hl:p'.will.props=p.will.props/\p'.codes=p.codes/\p'.filters=p.filters/\p'.props=p.props):
  CQ w gc p' h t a e (x.setCell ⟨w.heap.size+1,i,none⟩ u):=by
 refine c.put i u he ⟨hl.2.1.trans c.flat.1,hl.2.2.1.trans c.flat.2⟩ ?_;have:=c.into.blk c.flat.1 c.flat.2 c.pk (dY _ _) (YR x (w.heap.size+1) i u);obtain⟨b,d,f,g⟩:=hl;exact⟨by rw[b];exact this.wp,by rw[d];exact this.codes,by rw[f];exact this.filters,by rw[g];exact this.props,by rw[b,d,f,g];exact this.caps⟩
theorem CQ.setP(c:CQ w gc p h t a e x)(hr:Rd x x.heap.size 4 A l.length (prs l))(hn:l.length<=n):
  CQ w gc {p with props:=l} {h with props:=⟨A,n⟩} t a e (x.setCell ⟨w.heap.size+1,24,none⟩ (.slice A l.length n)):=by
 refine c.put 24 _ rfl c.flat ?_;have b:=YR x (w.heap.size+1) 24 (.slice A l.length n);have:=c.into.blk c.flat.1 c.flat.2 c.pk (dY _ _) b;exact⟨this.wp,this.codes,this.filters,(hr.other c.pk (dY _ _) b (ac _)).wider b.size,this.caps.1,this.caps.2.1,this.caps.2.2.1,hn⟩
theorem CQ.setW(c:CQ w gc p h t a e x)(hr:Rd x x.heap.size 4 A l.length (prs l))(hn:l.length<=n):
  CQ w gc {p with will:={p.will with props:=l}} {h with wp:=⟨A,n⟩} t a e (x.setCell ⟨w.heap.size+1,19,none⟩ (.slice A l.length n)):=by
 refine c.put 19 _ rfl c.flat ?_;have b:=YR x (w.heap.size+1) 19 (.slice A l.length n);have:=c.into.blk c.flat.1 c.flat.2 c.pk (dY _ _) b;exact⟨(hr.other c.pk (dY _ _) b (ac _)).wider b.size,this.codes,this.filters,this.props,hn,this.caps.2⟩
end
def Ql(g:Nat)(t:abO)(r:Pk×Nat×Int)(w:abP)(e:Ending)(w':abP):Prop:=
 ∃k,e= .returned (pkV r.1 k)/\PkIn w' w'.heap.size r.1 k/\(r.1.codes=[]/\r.1.filters=[])/\IC w' g t r.2.1 r.2.2/\w.grownBy w' (some g)
theorem CQ.fin{w x:abP}{gc:Nat}{p:Pk}{h:Hs}(c:CQ w gc p h t a e x):Ql gc t (p,a,e) w (.returned (pkV p h)) (dE x w.heap.size p h):=by
 have b:=cJ x w.heap.size p h;exact⟨h,rfl,c.into.blk c.flat.1 c.flat.2 c.res (dY _ _) b,c.flat,⟨c.cur.1.mods (S:=λz=>z=w.heap.size) (qb b rfl) (by have:=c.lt;omega),c.cur.2⟩,
  ⟨b.os.trans c.mods.os,b.tape.trans c.mods.tape,b.output.trans c.mods.output,aC c.mods.size b.size,λi d f=>(b.block i (by have:=c.mods.size;omega) (λe=>by cases e;omega)).trans (c.mods.block i d f)⟩⟩
def rcT(v:Int)(s:abO):abO×Nat×Int:=rtC s (cnP v s).2.1 (cnP v s).2.2
theorem Ro(v k:Int)(t:abO)(a:Nat)(e:Int):QK v k t a e=fv v k t a e:=rfl
theorem Sb{f:Nat}(k:Nat)(_hk:k=2\/k=4\/k=32\/k=64\/k=128)(hf:f<256):((wrap64 ((f:Int) / (k:Int))).tmod 2==1)=decide (f/ k% 2=1):=by
 have a:((f:Int) / (k:Int))=((f/ k:Nat):Int):=rfl;have c:f/ k<=f:=Nat.div_le_self _ _;rw[a];generalize f/ k=q at*;have b:wrap64 (q:Int)=(q:Int):=by simp only[wrap64];omega
 rw[b,QP (by omega),eG,cH,aK];omega
theorem abM{f:Nat}(hf:f<256):(wrap64 ((f:Int) / 8)).tmod 4=((f/ 8% 4:Nat):Int):=by
 have a:wrap64 ((f:Int) / 8)=(f:Int) / 8:=by simp only[wrap64];omega
 rw[a,QP (by omega)];omega
theorem RG(gc:Nat)(t:abO)(v:Int)(w:abP)(h:IC w gc t 0 0)(ht:t.size<=140737488351232)(hv:v=4\/v=5):
  Calls prog 111 #[.int .i64 v,.pointer (some ⟨gc,0,none⟩)] w (Ql gc t (Rv v t) w):=by
 have HT:=aa ht;have HV:=aa hv;have df:=aa h.lt;have HC:=aa h;have bQ:Hid (stN t=((aH t 0 0 6).2.1,if(aH t 0 0 6).1=i8 then(aH t 0 0 6).2.2 else fh (aH t 0 0 6).2.2 5)):=aa rfl;have cE:Hid (cnV v t=stV v t (stN t).1 (stN t).2):=aa rfl;have cA:Hid (cnF v t=stG v t (cnV v t).1 (cnV v t).2):=aa rfl;have cB:Hid (cnK v t=stK t (cnF v t).2.1 (cnF v t).2.2):=aa rfl;have cC:Hid (cnP v t=fv v 1 t (cnK v t).2.1 (cnK v t).2.2):=aa rfl;have bX:Hid (rcT v t=rtC t (cnP v t).2.1 (cnP v t).2.2):=aa rfl;have aG:Hid (rc1 v t=(xz (cnF v t).1 (cnK v t).1 (rcT v t).1 (cnP v t).1,(rcT v t).2.1,(rcT v t).2.2)):=aa rfl;have cD:Hid (Rv v t=rc4 t (rc3 t (rc2 v t (rc1 v t)))):=aa rfl;generalize Rv v t=RR at*;have dc:∀q k,(zc (.pointer (some ⟨w.heap.size+1,0,none⟩)) (pkV q k)).run prog ((w.alloc (.cells (pkC pk0 hs0) PkT)).alloc (.cells (pkC pk0 hs0) PkT))= .ok () ((w.alloc (.cells (pkC pk0 hs0) PkT)).alloc (.cells (pkC q k) PkT)):=λq k=>by
  have h2:(w.alloc (.cells (pkC pk0 hs0) PkT)).heap.size=w.heap.size+1:=by simp
  have:=ax (w.alloc (.cells (pkC pk0 hs0) PkT)) pk0 q hs0 k;rw[h2]at this;exact this
 clear h ht hv;go_enter func111,ntmps111;have C0:Hid (CQ w gc {pk0 with kind:=1} hs0 t 0 0 ((w.alloc (.cells (pkC pk0 hs0) PkT)).alloc (.cells (pkC {pk0 with kind:=1} hs0) PkT))):=aa
  ⟨Y7 (((aq _ _).alloc (ac _) _).alloc (by simp) _) _,HC.o.below (((aq _ _).alloc (ac _) _).alloc (by simp) _),(Bk.fresh w PkT (pkC pk0 hs0)).alloc _,
   by simpa using Bk.fresh (w.alloc (.cells (pkC pk0 hs0) PkT)) PkT (pkC {pk0 with kind:=1} hs0),PkIn.zero _ _ 1 0 0,⟨rfl,rfl⟩,df.o⟩
 go_wp2_with fail;clear dc HC;generalize (w.alloc (.cells (pkC pk0 hs0) PkT)).alloc (.cells (pkC {pk0 with kind:=1} hs0) PkT)=x0 at*;obtain⟨p,b9⟩:∃q,{pk0 with kind:=1}=q:=⟨_,rfl⟩;have bT:=aa b9.symm;rw[b9]at C0;clear b9;refine(QY gc 0 t 0 6 _ C0.o.cur).mono ?_;rintro e x1 ⟨rfl,d,f⟩;generalize aH t 0 0 6=T0 at*;obtain⟨b6,O,m⟩:=T0;simp only at bQ d⊢;have C1:=aa (C0.o.turn d f);clear d f C0;obtain⟨R,bD⟩:∃R,(b6.toList==i8.toList)=R:=⟨_,rfl⟩;have db:(b6.toList !=i8.toList)= !R:=by rw[<-bD];rfl
 have HN:Hid (stN t=(O,if R=true then m else fh m 5)):=aa (by
  rw[bQ.o];by_cases V:b6=i8
  ·have:R=true:=by rw[<-bD,V];exact beq_self_eq_true _
   rw[if_pos V,this,if_pos rfl]
  ·have:R=false:=by
    rw[<-bD];exact ar.2 λx=>V ((toList_inj _ _).1 x)
   rw[Fl V,this,Fl (by decide)])
 clear bQ;go_upto_region 3 with fail
 go_cut [21] (λs wx=>s= .bool (decide (m=0)&& !R)/\CQ w gc p hs0 t O m wx)
 case first=>
  have ce:=C1.o.cur.cells.1.2.2;by_cases g:m=0
  ·have eE:(m==0)=true:=aK.2 g;have D:=aa g;clear g;go_wp2_with fail;refine Yg (He ⟨#[77,81,84,84]⟩ _ (by decide)) λzt V=>?_;rw[Nt];have CT:=aa (C1.o.below V);clear V
   go_wp2;go_meet
   case rel=>exact⟨by rw[au D.o,aL],CT.o⟩
  ·have eE:(m==0)=false:=ar.2 g;have D:=aa g;clear g;go_wp2;go_meet
   case rel=>exact⟨by rw[ah D.o];rfl,C1.o⟩
 obtain⟨rfl,j⟩:=hcut;have M:=aa j;clear j;obtain⟨bq,F⟩:∃z,(decide (m=0)&& !R)=z:=⟨_,rfl⟩;rw[F];have C:=aa F;clear F
 go_upto_if 21 with fail
 go_cut [22] (λ_ wx=>CQ w gc p hs0 t O (if R=true then m else fh m 5) wx)
 case first=>
  cases bq
  ·have HF:Hid ((if R=true then m else fh m 5)=m):=aa (by
    have G:=C.o;by_cases g:m=0
    ·rw[au g]at G;cases R
     ·cases G
     ·rfl
    ·rw[show fh m 5=m from Fl g];split<;>rfl)
   go_wp2;go_meet
   case rel=>rw[HF.o];exact M.o
  ·have HF:Hid ((if R=true then m else fh m 5)=(if m=0 then 5 else m)):=aa (by
    have G:=C.o;cases R
    ·rfl
    ·rw[Ra,ru]at G;cases G)
   go_wp2_with fail;refine(Qv gc O t m 5 _ M.o.cur).mono ?_;rintro e' zf ⟨rfl,d,f⟩;have CF:=aa (M.o.turn d f);clear d f;go_wp2;go_meet
   case rel=>rw[HF.o];exact CF.o
 clear C M;have C2:=aa hcut;clear hcut bD db C1;generalize (if R=true then m else fh m 5)=e0 at*;have dF:IntKind.u64.wrap v=v:=by rw[iZ];have:=HV.o;omega
 go_wp2_with fail;refine(Qz gc O t e0 1 _ C2.o.cur (by decide)).mono ?_;rintro e x3 ⟨rfl,d,f⟩;obtain⟨T,bE⟩:∃T,(((br t O e0 1:Nat):Int)==v)=T:=⟨_,rfl⟩;have da:(((br t O e0 1:Nat):Int) !=v)= !T:=by rw[<-bE];rfl
 have HW:Hid (cnV v t=((aH t O e0 1).2.1,if T=true then(aH t O e0 1).2.2 else fh (aH t O e0 1).2.2 5)):=aa (by
  rw[cE.o,HN.o];unfold stV;by_cases V:((br t O e0 1:Nat):Int)=v
  ·have:T=true:=by rw[<-bE];exact aK.2 V
   simp only;rw[if_pos V,this,if_pos rfl]
  ·have:T=false:=by rw[<-bE];exact ar.2 V
   simp only;rw[Fl V,this,Fl (by decide)])
 generalize br t O e0 1=n1 at*;generalize (aH t O e0 1).2.1=a1 at*;generalize (aH t O e0 1).2.2=f1 at*;have C3:=aa (C2.o.turn d f);clear cE HN d f C2;go_upto_region 6 with fail
 go_cut [36] (λs wx=>s= .bool (decide (f1=0)&& !T)/\CQ w gc p hs0 t a1 f1 wx)
 case first=>
  have ce:=C3.o.cur.cells.1.2.2;by_cases g:f1=0
  ·have eE:(f1==0)=true:=aK.2 g;have D:=aa g;clear g;go_wp2;go_meet
   case rel=>exact⟨by rw[au D.o,aL],C3.o⟩
  ·have eE:(f1==0)=false:=ar.2 g;have D:=aa g;clear g;go_wp2;go_meet
   case rel=>exact⟨by rw[ah D.o];rfl,C3.o⟩
 obtain⟨rfl,j⟩:=hcut;have M:=aa j;clear j;obtain⟨bq,F⟩:∃z,(decide (f1=0)&& !T)=z:=⟨_,rfl⟩;rw[F];have C:=aa F;clear F
 go_upto_if 36 with fail
 go_cut [37] (λ_ wx=>CQ w gc p hs0 t a1 (if T=true then f1 else fh f1 5) wx)
 case first=>
  cases bq
  ·have HF:Hid ((if T=true then f1 else fh f1 5)=f1):=aa (by
    have G:=C.o;by_cases g:f1=0
    ·rw[au g]at G;cases T
     ·cases G
     ·rfl
    ·rw[show fh f1 5=f1 from Fl g];split<;>rfl)
   go_wp2;go_meet
   case rel=>rw[HF.o];exact M.o
  ·have HF:Hid ((if T=true then f1 else fh f1 5)=(if f1=0 then 5 else f1)):=aa (by
    have G:=C.o;cases T
    ·rfl
    ·rw[Ra,ru]at G;cases G)
   go_wp2_with fail;refine(Qv gc a1 t f1 5 _ M.o.cur).mono ?_;rintro e' zf ⟨rfl,d,f⟩;have CF:=aa (M.o.turn d f);clear d f;go_wp2;go_meet
   case rel=>rw[HF.o];exact CF.o
 clear C M;have u:=aa hcut;clear hcut bE da C3 dF;generalize (if T=true then f1 else fh f1 5)=e1 at*;have N:=aa (iV t a1 e1);have ej:IntKind.i64.wrap ((br t a1 e1 1:Nat):Int)=((br t a1 e1 1:Nat):Int):=by rw[aQ];have:=N.o;omega
 go_wp2_with fail;refine(Qz gc a1 t e1 1 _ u.o.cur (by decide)).mono ?_;rintro e x5 ⟨rfl,d,f⟩;have C5:=aa (u.o.turn d f);clear d f u
 have bj:Hid (cnF v t=(br t a1 e1 1,(aH t a1 e1 1).2.1,if tu v (br t a1 e1 1)=true then(aH t a1 e1 1).2.2 else fh (aH t a1 e1 1).2.2 7)):=aa (by rw[cA.o,HW.o];rfl);generalize br t a1 e1 1=fn at*;generalize (aH t a1 e1 1).2.1=a2 at*;generalize (aH t a1 e1 1).2.2=f2 at*;clear cA HW;have KW:=aa (λx:abP=>Te v HV.o fn N.o x);obtain⟨bf,cM⟩:∃bf,tu v fn=bf:=⟨_,rfl⟩;rw[cM]at bj KW;clear cM;go_upto_region 9 with fail
 go_cut [51] (λs wx=>s= .bool (decide (f2=0)&& !bf)/\CQ w gc p hs0 t a2 f2 wx)
 case first=>
  have ce:=C5.o.cur.cells.1.2.2;by_cases g:f2=0
  ·have eE:(f2==0)=true:=aK.2 g;have D:=aa g;clear g;go_wp2_with fail;refine(KW.o _).mono ?_;rintro e' zt ⟨rfl,rfl⟩;go_wp2;go_meet
   case rel=>exact⟨by rw[au D.o,aL],C5.o⟩
  ·have eE:(f2==0)=false:=ar.2 g;have D:=aa g;clear g;go_wp2;go_meet
   case rel=>exact⟨by rw[ah D.o];rfl,C5.o⟩
 obtain⟨rfl,j⟩:=hcut;have M:=aa j;clear j;obtain⟨bq,F⟩:∃z,(decide (f2=0)&& !bf)=z:=⟨_,rfl⟩;rw[F];have C:=aa F;clear F
 go_upto_if 51 with fail
 go_cut [52] (λ_ wx=>CQ w gc p hs0 t a2 (if bf=true then f2 else fh f2 7) wx)
 case first=>
  cases bq
  ·have HF:Hid ((if bf=true then f2 else fh f2 7)=f2):=aa (by
    have G:=C.o;by_cases g:f2=0
    ·rw[au g]at G;cases bf
     ·cases G
     ·rfl
    ·rw[show fh f2 7=f2 from Fl g];split<;>rfl)
   go_wp2;go_meet
   case rel=>rw[HF.o];exact M.o
  ·have HF:Hid ((if bf=true then f2 else fh f2 7)=(if f2=0 then 7 else f2)):=aa (by
    have G:=C.o;cases bf
    ·rfl
    ·rw[Ra,ru]at G;cases G)
   go_wp2_with fail;refine(Qv gc a2 t f2 7 _ M.o.cur).mono ?_;rintro e' zf ⟨rfl,d,f⟩;have CF:=aa (M.o.turn d f);clear d f;go_wp2;go_meet
   case rel=>rw[HF.o];exact CF.o
 clear C M;have u:=aa hcut;clear hcut KW C5;generalize (if bf=true then f2 else fh f2 7)=e2 at*;have dD:(0:Int)<=(fn:Int):=by omega
 have g2:=Sb 2 (.inl rfl) N.o;have g4:=Sb 4 (.inr (.inl rfl)) N.o;have b3:=Sb 32 (.inr (.inr (.inl rfl))) N.o;have b5:=Sb 64 (.inr (.inr (.inr (.inl rfl)))) N.o;have bd:=Sb 128 (.inr (.inr (.inr (.inr rfl)))) N.o;have g8:=abM N.o;simp only[show((2:Nat):Int)=2 from rfl,show((4:Nat):Int)=4 from rfl,show((32:Nat):Int)=32 from rfl,show((64:Nat):Int)=64 from rfl,show((128:Nat):Int)=128 from rfl]at g2 g4 b3 b5 bd;have f7:=u.o.pk.free 7;have p7:=(u.o.pk.cell 7).trans (dr _ _)
 have dy:=u.o.pk.free 14;have bb:=(u.o.pk.cell 14).trans (YM _ _)
 have dx:=u.o.pk.free 12;have dH:=(u.o.pk.cell 12).trans (YK _ _)
 have dw:=u.o.pk.free 10;have dG:=(u.o.pk.cell 10).trans (bW _ _)
 have dA:=u.o.pk.free 18;have dJ:=(u.o.pk.cell 18).trans (cu _ _)
 have dz:=u.o.pk.free 17;have dI:=(u.o.pk.cell 17).trans (cw _ _)
 obtain⟨b2,b8⟩:∃b,decide (fn/ 2% 2=1)=b:=⟨_,rfl⟩;obtain⟨b4,U⟩:∃b,decide (fn/ 4% 2=1)=b:=⟨_,rfl⟩;obtain⟨aI,be⟩:∃b,decide (fn/ 32% 2=1)=b:=⟨_,rfl⟩;obtain⟨Q,E⟩:∃b,decide (fn/ 64% 2=1)=b:=⟨_,rfl⟩;obtain⟨o,aX⟩:∃b,decide (fn/ 128% 2=1)=b:=⟨_,rfl⟩;obtain⟨qq,ca⟩:∃q:Int,((fn/ 8% 4:Nat):Int)=q:=⟨_,rfl⟩;rw[b8]at g2;rw[U]at g4;rw[be]at b3;rw[E]at b5;rw[aX]at bd;rw[ca]at g8;have bS:Hid (∀(k:Nat) c l,({p with clean:=b2,hasWill:=b4,hasPass:=Q,hasUser:=o,will:={p.will with retain:=aI,qos:=qq},alive:=((k:Nat):Int),props:=l,client:=c}:Pk)=xz fn k c l):=aa (by
  intro k c l;rw[<-b8,<-U,<-be,<-E,<-aX,<-ca,bT.o];rfl)
 clear b8 U be E aX ca;have cr:=aa (gU t a2 e2 u.o.cur.2.1);have C5:=aa ((((((u.o.set 10 (.bool o) (p':={p with hasUser:=o}) rfl ⟨rfl,rfl,rfl,rfl⟩).set 12 (.bool Q) (p':={p with hasUser:=o,hasPass:=Q}) rfl ⟨rfl,rfl,rfl,rfl⟩).set 14 (.bool b4) (p':={p with hasUser:=o,hasPass:=Q,hasWill:=b4}) rfl ⟨rfl,rfl,rfl,rfl⟩).set 7 (.bool b2) (p':={p with hasUser:=o,hasPass:=Q,hasWill:=b4,clean:=b2}) rfl ⟨rfl,rfl,rfl,rfl⟩).set 18 (.bool aI) (p':={p with hasUser:=o,hasPass:=Q,hasWill:=b4,clean:=b2,will:={p.will with retain:=aI}}) rfl ⟨rfl,rfl,rfl,rfl⟩).set 17 (.int .i64 qq) (p':={p with hasUser:=o,hasPass:=Q,hasWill:=b4,clean:=b2,will:={p.will with retain:=aI,qos:=qq}}) rfl ⟨rfl,rfl,rfl,rfl⟩);clear u;go_wp2_with fail;refine(Qz gc a2 t e2 2 _ C5.o.cur (by decide)).mono ?_;rintro e x8 ⟨rfl,d,f⟩;have C6:=aa (C5.o.turn d f);clear d f C5 f7 p7 dy bb dx dH dw dG dA dJ dz dI g2 g4 g8 b3 b5 bd dD;have bP:Hid (cnK v t=(br t a2 e2 2,(aH t a2 e2 2).2.1,(aH t a2 e2 2).2.2)):=aa (by rw[cB.o,bj.o];rfl);generalize br t a2 e2 2=kn at*;generalize (aH t a2 e2 2).2.1=a3 at*;generalize (aH t a2 e2 2).2.2=e3 at*;have dE:IntKind.i64.wrap (kn:Int)=(kn:Int):=by rw[aQ];have:=cr.o;omega
 have f8:=C6.o.pk.free 8;have p8:=(C6.o.pk.cell 8).trans (dp _ _)
 have p0:x8.cell? ⟨w.heap.size+1,0,none⟩=some (.int .i64 1):=((C6.o.pk.cell 0).trans (cI _ _)).trans (by rw[bT.o]);have C7:=aa (C6.o.set 8 (.int .i64 (kn:Int)) (p':={p with clean:=b2,hasWill:=b4,hasPass:=Q,hasUser:=o,will:={p.will with retain:=aI,qos:=qq},alive:=(kn:Int)}) rfl ⟨rfl,rfl,rfl,rfl⟩);have cs:Hid (cnP v t=fv v 1 t a3 e3):=aa (by rw[cC.o,bP.o]);clear C6 cB cC;go_wp2_with fail;refine(QD v 1 gc a3 t e3 _ C7.o.cur HT.o).mono ?_;rintro e x9 ⟨A,c,rfl,K,hr,d,f⟩;rw[Ro]at K hr d⊢;rw[<-cs.o]at K hr d⊢;clear cs f8 p8 p0 dE;generalize cnP v t=r at*;obtain⟨l,a4,e4⟩:=r;simp only at K hr d bX aG⊢;have C8:=aa (C7.o.turn d f);have C9:=aa (C8.o.setP hr K);have dB:=C8.o.pk.free 24;have dK:=(C8.o.pk.cell 24).trans (bR _ _)
 clear K hr d f C7;go_wp2_with fail;refine(YC gc a4 t e4 _ C9.o.cur).mono ?_;rintro e y0 ⟨rfl,d,f⟩;rw[<-bX.o]at d⊢;clear bX dB dK C8;generalize rcT v t=r at*;obtain⟨cl,a5,e5⟩:=r;simp only at d aG⊢;rw[bj.o,bP.o]at aG;simp only at aG;have B:=aa (C9.o.turn d f);clear d f C9 bj bP;have aJ:=aa (B.o.set 9 (.string cl) (p':={p with clean:=b2,hasWill:=b4,hasPass:=Q,hasUser:=o,will:={p.will with retain:=aI,qos:=qq},alive:=(kn:Int),props:=l,client:=cl}) rfl ⟨rfl,rfl,rfl,rfl⟩);have f9:=B.o.pk.free 9;have p9:=(B.o.pk.cell 9).trans (dn _ _)
 have bb:y0.cell? ⟨w.heap.size+1,14,none⟩=some (.bool b4):=(B.o.pk.cell 14).trans (YM _ _);have bi:Hid ((xz fn kn cl l).hasWill=b4):=aa (by rw[<-bS.o]);rw[bS.o]at aJ;generalize xz fn kn cl l=P1 at*;clear B bS bT cr N;obtain⟨H1,cH⟩:∃H:Hs,{hs0 with props:=⟨A,c⟩}=H:=⟨_,rfl⟩;rw[cH]at aJ;clear cH;obtain⟨Y1,cK⟩:∃Y,y0.setCell ⟨w.heap.size+1,9,none⟩ (.string cl)=Y:=⟨_,rfl⟩;have i:=aJ;rw[cK]at i;have cx:Hid (RR=rc4 t (rc3 t (rc2 v t (P1,a5,e5)))):=aa (by rw[cD.o,aG.o]);clear aJ cD aG;cases b4
 ·have bb:=((i.o.pk.cell 14).trans (YM _ _)).trans (show _=some (Value.bool false) by rw[bi.o]);have ba:Hid (RR=rc4 t (rc3 t (P1,a5,e5))):=aa (by rw[cx.o];unfold rc2;rw[Fl (by rw[bi.o];decide)]);cases bC:(P1:Pk).hasUser
  ·have c8:=((i.o.pk.cell 10).trans (bW _ _)).trans (show _=some (Value.bool false) by rw[bC]);have ct:Hid (RR=rc4 t (P1,a5,e5)):=aa (by rw[ba.o];unfold rc3;rw[Fl (by rw[bC];decide)]);cases U:(P1:Pk).hasPass
   ·have c9:=((i.o.pk.cell 12).trans (YK _ _)).trans (show _=some (Value.bool false) by rw[U]);have L:Hid (RR=(P1,a5,e5)):=aa (by rw[ct.o];unfold rc4;rw[Fl (by rw[U];decide)]);have hl:=cf i.o.pk;have j:=aW i.o.res;go_wp2;refine abZ (fz rfl _ rfl (cO i.o.res _ _)) rfl ?_;rw[L.o];exact i.o.fin
   ·have c9:=((i.o.pk.cell 12).trans (YK _ _)).trans (show _=some (Value.bool true) by rw[U]);go_wp2_with fail;refine(QW gc a5 t e5 _ i.o.cur).mono ?_;rintro e y5 ⟨rfl,d,f⟩;obtain⟨S6,a7,e8,aM⟩:∃(S:abO) (a:Nat) (e:Int),rbC t a5 e5=(S,a,e):=⟨_,_,_,rfl⟩;rw[aM]at d⊢;simp only at d⊢
    replace aM:=aa aM
    have C9:=aa (i.o.turn d f);have B:=aa (C9.o.set 13 (.string S6) (p':={(P1:Pk)with pass:=S6}) rfl ⟨rfl,rfl,rfl,rfl⟩);have fx:=C9.o.pk.free 13;have px:=(C9.o.pk.cell 13).trans (bZ _ _)
    clear d f;obtain⟨eb,c1⟩:∃Y,y5.setCell ⟨w.heap.size+1,13,none⟩ (.string S6)=Y:=⟨_,rfl⟩;rw[c1]at B;obtain⟨cS,W⟩:∃P:Pk,{(P1:Pk)with pass:=S6}=P:=⟨_,rfl⟩;rw[W]at B
    replace W:=aa W
    have L:Hid (RR=(cS,a7,e8)):=aa (by rw[ct.o];unfold rc4;rw[if_pos U];simp only;rw[aM.o,<-W.out]);have hl:=cf B.o.pk;have j:=aW B.o.res;go_wp2;refine abZ (fz rfl _ rfl (cO B.o.res _ _)) rfl ?_;rw[L.o];exact B.o.fin
  ·have c8:=((i.o.pk.cell 10).trans (bW _ _)).trans (show _=some (Value.bool true) by rw[bC]);go_wp2_with fail;refine(YC gc a5 t e5 _ i.o.cur).mono ?_;rintro e dM ⟨rfl,d,f⟩;obtain⟨bk,bu,bx,aN⟩:∃(S:abO) (a:Nat) (e:Int),rtC t a5 e5=(S,a,e):=⟨_,_,_,rfl⟩;rw[aN]at d⊢;simp only at d⊢
   replace aN:=aa aN
   have bF:=aa (i.o.turn d f);have I:=aa (bF.o.set 11 (.string bk) (p':={(P1:Pk)with user:=bk}) rfl ⟨rfl,rfl,rfl,rfl⟩);have fx:=bF.o.pk.free 11;have px:=(bF.o.pk.cell 11).trans (co _ _)
   clear d f;obtain⟨ec,c2⟩:∃Y,dM.setCell ⟨w.heap.size+1,11,none⟩ (.string bk)=Y:=⟨_,rfl⟩;rw[c2]at I;obtain⟨aj,X⟩:∃P:Pk,{(P1:Pk)with user:=bk}=P:=⟨_,rfl⟩;rw[X]at I
   replace X:=aa X
   have cv:Hid (RR=rc4 t (aj,bu,bx)):=aa (by rw[ba.o];unfold rc3;rw[if_pos bC];simp only;rw[aN.o,<-X.out]);cases aY:(aj:Pk).hasPass
   ·have cm:=((I.o.pk.cell 12).trans (YK _ _)).trans (show _=some (Value.bool false) by rw[aY]);have L:Hid (RR=(aj,bu,bx)):=aa (by rw[cv.o];unfold rc4;rw[Fl (by rw[aY];decide)]);have hl:=cf I.o.pk;have j:=aW I.o.res;go_wp2;refine abZ (fz rfl _ rfl (cO I.o.res _ _)) rfl ?_;rw[L.o];exact I.o.fin
   ·have cm:=((I.o.pk.cell 12).trans (YK _ _)).trans (show _=some (Value.bool true) by rw[aY]);go_wp2_with fail;refine(QW gc bu t bx _ I.o.cur).mono ?_;rintro e dN ⟨rfl,d,f⟩;obtain⟨bl,dj,dt,aO⟩:∃(S:abO) (a:Nat) (e:Int),rbC t bu bx=(S,a,e):=⟨_,_,_,rfl⟩;rw[aO]at d⊢;simp only at d⊢
    replace aO:=aa aO
    have bG:=aa (I.o.turn d f);have aD:=aa (bG.o.set 13 (.string bl) (p':={(aj:Pk)with pass:=bl}) rfl ⟨rfl,rfl,rfl,rfl⟩);have fx:=bG.o.pk.free 13;have px:=(bG.o.pk.cell 13).trans (bZ _ _)
    clear d f;obtain⟨ed,c3⟩:∃Y,dN.setCell ⟨w.heap.size+1,13,none⟩ (.string bl)=Y:=⟨_,rfl⟩;rw[c3]at aD;obtain⟨cT,Z⟩:∃P:Pk,{(aj:Pk)with pass:=bl}=P:=⟨_,rfl⟩;rw[Z]at aD
    replace Z:=aa Z
    have L:Hid (RR=(cT,dj,dt)):=aa (by rw[cv.o];unfold rc4;rw[if_pos aY];simp only;rw[aO.o,<-Z.out]);have hl:=cf aD.o.pk;have j:=aW aD.o.res;go_wp2;refine abZ (fz rfl _ rfl (cO aD.o.res _ _)) rfl ?_;rw[L.o];exact aD.o.fin
 ·have bb:=((i.o.pk.cell 14).trans (YM _ _)).trans (show _=some (Value.bool true) by rw[bi.o]);go_wp2_with fail;refine(QD v 16 gc a5 t e5 _ i.o.cur HT.o).mono ?_;rintro e yw ⟨A',c',rfl,K,hr,d,f⟩;obtain⟨wl,aw,ew,bB⟩:∃(l:List Pr) (a:Nat) (e:Int),QK v 16 t a5 e5=(l,a,e):=⟨_,_,_,rfl⟩;rw[bB]at K hr d⊢;simp only at K hr d⊢
  replace bB:Hid (fv v 16 t a5 e5=(wl,aw,ew)):=aa bB
  have bO:=aa (i.o.turn d f);have a9:=aa (bO.o.setW hr K);have fx:=bO.o.pk.free 19;have px:=(bO.o.pk.cell 19).trans (YL _ _)
  clear K hr d f bb f9 p9 cK;obtain⟨Yw,cL⟩:∃Y,yw.setCell ⟨w.heap.size+1,19,none⟩ (.slice A' wl.length c')=Y:=⟨_,rfl⟩;rw[cL]at a9;obtain⟨HW,cJ⟩:∃H:Hs,{H1 with wp:=⟨A',c'⟩}=H:=⟨_,rfl⟩;rw[cJ]at a9;obtain⟨PW,bA⟩:∃P:Pk,{P1 with will:={P1.will with props:=wl}}=P:=⟨_,rfl⟩;rw[bA]at a9
  replace bA:=aa bA
  clear cJ;go_wp2_with fail;clear fx px cL;refine(YC gc aw t ew _ a9.o.cur).mono ?_;rintro e dO ⟨rfl,d,f⟩;obtain⟨bm,cF,cG,aP⟩:∃(S:abO) (a:Nat) (e:Int),rtC t aw ew=(S,a,e):=⟨_,_,_,rfl⟩;rw[aP]at d⊢;simp only at d⊢
  replace aP:=aa aP
  have bH:=aa (a9.o.turn d f);have bh:=aa (bH.o.set 15 (.string bm) (p':={(PW:Pk)with will:={(PW:Pk).will with topic:=bm}}) rfl ⟨rfl,rfl,rfl,rfl⟩);have fx:=bH.o.pk.free 15;have px:=(bH.o.pk.cell 15).trans (cz _ _)
  clear d f;obtain⟨ee,b7⟩:∃Y,dO.setCell ⟨w.heap.size+1,15,none⟩ (.string bm)=Y:=⟨_,rfl⟩;rw[b7]at bh;obtain⟨aV,ab⟩:∃P:Pk,{(PW:Pk)with will:={(PW:Pk).will with topic:=bm}}=P:=⟨_,rfl⟩;rw[ab]at bh
  replace ab:=aa ab
  go_wp2_with fail;clear fx px b7;refine(QW gc cF t cG _ bh.o.cur).mono ?_;rintro e dP ⟨rfl,d,f⟩;obtain⟨bo,an,av,aR⟩:∃(S:abO) (a:Nat) (e:Int),rbC t cF cG=(S,a,e):=⟨_,_,_,rfl⟩;rw[aR]at d⊢;simp only at d⊢
  replace aR:=aa aR
  have bI:=aa (bh.o.turn d f);have n:=aa (bI.o.set 16 (.string bo) (p':={(aV:Pk)with will:={(aV:Pk).will with payload:=bo}}) rfl ⟨rfl,rfl,rfl,rfl⟩);have fx:=bI.o.pk.free 16;have px:=(bI.o.pk.cell 16).trans (cy _ _)
  clear d f;obtain⟨ef,c4⟩:∃Y,dP.setCell ⟨w.heap.size+1,16,none⟩ (.string bo)=Y:=⟨_,rfl⟩;rw[c4]at n;obtain⟨y,ad⟩:∃P:Pk,{(aV:Pk)with will:={(aV:Pk).will with payload:=bo}}=P:=⟨_,rfl⟩;rw[ad]at n
  replace ad:=aa ad
  have ba:Hid (RR=rc4 t (rc3 t (y,an,av))):=aa (by
   rw[cx.o];unfold rc2;rw[if_pos bi.o]
   unfold Sm SE RV;simp only;rw[bB.out];simp only;rw[aP.o];simp only;rw[aR.o,<-ad.out,<-ab.out,<-bA.out])
  cases aZ:(y:Pk).hasUser
  ·have cn:=((n.o.pk.cell 10).trans (bW _ _)).trans (show _=some (Value.bool false) by rw[aZ]);have bU:Hid (RR=rc4 t (y,an,av)):=aa (by rw[ba.o];unfold rc3;rw[Fl (by rw[aZ];decide)]);cases E:(y:Pk).hasPass
   ·have cp:=((n.o.pk.cell 12).trans (YK _ _)).trans (show _=some (Value.bool false) by rw[E]);have L:Hid (RR=(y,an,av)):=aa (by rw[bU.o];unfold rc4;rw[Fl (by rw[E];decide)]);have hl:=cf n.o.pk;have j:=aW n.o.res;go_wp2;refine abZ (fz rfl _ rfl (cO n.o.res _ _)) rfl ?_;rw[L.o];exact n.o.fin
   ·have cp:=((n.o.pk.cell 12).trans (YK _ _)).trans (show _=some (Value.bool true) by rw[E]);go_wp2_with fail;refine(QW gc an t av _ n.o.cur).mono ?_;rintro e dQ ⟨rfl,d,f⟩;obtain⟨bp,dk,du,aS⟩:∃(S:abO) (a:Nat) (e:Int),rbC t an av=(S,a,e):=⟨_,_,_,rfl⟩;rw[aS]at d⊢;simp only at d⊢
    replace aS:=aa aS
    have bK:=aa (n.o.turn d f);have aE:=aa (bK.o.set 13 (.string bp) (p':={(y:Pk)with pass:=bp}) rfl ⟨rfl,rfl,rfl,rfl⟩);have fx:=bK.o.pk.free 13;have px:=(bK.o.pk.cell 13).trans (bZ _ _)
    clear d f;obtain⟨eg,c5⟩:∃Y,dQ.setCell ⟨w.heap.size+1,13,none⟩ (.string bp)=Y:=⟨_,rfl⟩;rw[c5]at aE;obtain⟨cU,ae⟩:∃P:Pk,{(y:Pk)with pass:=bp}=P:=⟨_,rfl⟩;rw[ae]at aE
    replace ae:=aa ae
    have L:Hid (RR=(cU,dk,du)):=aa (by rw[bU.o];unfold rc4;rw[if_pos E];simp only;rw[aS.o,<-ae.out]);have hl:=cf aE.o.pk;have j:=aW aE.o.res;go_wp2;refine abZ (fz rfl _ rfl (cO aE.o.res _ _)) rfl ?_;rw[L.o];exact aE.o.fin
  ·have cn:=((n.o.pk.cell 10).trans (bW _ _)).trans (show _=some (Value.bool true) by rw[aZ]);go_wp2_with fail;refine(YC gc an t av _ n.o.cur).mono ?_;rintro e dR ⟨rfl,d,f⟩;obtain⟨bs,bw,bz,aT⟩:∃(S:abO) (a:Nat) (e:Int),rtC t an av=(S,a,e):=⟨_,_,_,rfl⟩;rw[aT]at d⊢;simp only at d⊢
   replace aT:=aa aT
   have bL:=aa (n.o.turn d f);have J:=aa (bL.o.set 11 (.string bs) (p':={(y:Pk)with user:=bs}) rfl ⟨rfl,rfl,rfl,rfl⟩);have fx:=bL.o.pk.free 11;have px:=(bL.o.pk.cell 11).trans (co _ _)
   clear d f;obtain⟨eh,c6⟩:∃Y,dR.setCell ⟨w.heap.size+1,11,none⟩ (.string bs)=Y:=⟨_,rfl⟩;rw[c6]at J;obtain⟨ak,af⟩:∃P:Pk,{(y:Pk)with user:=bs}=P:=⟨_,rfl⟩;rw[af]at J
   replace af:=aa af
   have bV:Hid (RR=rc4 t (ak,bw,bz)):=aa (by rw[ba.o];unfold rc3;rw[if_pos aZ];simp only;rw[aT.o,<-af.out]);cases a0:(ak:Pk).hasPass
   ·have cq:=((J.o.pk.cell 12).trans (YK _ _)).trans (show _=some (Value.bool false) by rw[a0]);have L:Hid (RR=(ak,bw,bz)):=aa (by rw[bV.o];unfold rc4;rw[Fl (by rw[a0];decide)]);have hl:=cf J.o.pk;have j:=aW J.o.res;go_wp2;refine abZ (fz rfl _ rfl (cO J.o.res _ _)) rfl ?_;rw[L.o];exact J.o.fin
   ·have cq:=((J.o.pk.cell 12).trans (YK _ _)).trans (show _=some (Value.bool true) by rw[a0]);go_wp2_with fail;refine(QW gc bw t bz _ J.o.cur).mono ?_;rintro e dS ⟨rfl,d,f⟩;obtain⟨bt,dl,dv,aU⟩:∃(S:abO) (a:Nat) (e:Int),rbC t bw bz=(S,a,e):=⟨_,_,_,rfl⟩;rw[aU]at d⊢;simp only at d⊢
    replace aU:=aa aU
    have bM:=aa (J.o.turn d f);have aF:=aa (bM.o.set 13 (.string bt) (p':={(ak:Pk)with pass:=bt}) rfl ⟨rfl,rfl,rfl,rfl⟩);have fx:=bM.o.pk.free 13;have px:=(bM.o.pk.cell 13).trans (bZ _ _)
    clear d f;obtain⟨ei,c7⟩:∃Y,dS.setCell ⟨w.heap.size+1,13,none⟩ (.string bt)=Y:=⟨_,rfl⟩;rw[c7]at aF;obtain⟨cV,ag⟩:∃P:Pk,{(ak:Pk)with pass:=bt}=P:=⟨_,rfl⟩;rw[ag]at aF
    replace ag:=aa ag
    have L:Hid (RR=(cV,dl,dv)):=aa (by rw[bV.o];unfold rc4;rw[if_pos a0];simp only;rw[aU.o,<-ag.out]);have hl:=cf aF.o.pk;have j:=aW aF.o.res;go_wp2;refine abZ (fz rfl _ rfl (cO aF.o.res _ _)) rfl ?_;rw[L.o];exact aF.o.fin
theorem Tq(t:abO)(a:Nat)(e:Int)(ha:a<=t.size):(rtC t a e).1.size<=65535/\(rtC t a e).2.1<=t.size:=⟨(uD ha).2,(uD ha).1⟩
theorem TM(t:abO)(a:Nat)(e:Int)(ha:a<=t.size):(rbC t a e).1.size<=65535:=(Sn ha).2
theorem TN(t:abO)(a:Nat)(e:Int)(ha:a<=t.size):(rbC t a e).2.1<=t.size:=(Sn ha).1
theorem TV(ht:t.size<=140737488351232):RdOk t (rc1 v t):=by
 have c:(aH t 0 0 6).2.1<=t.size:=dy (ag _) _ _;have d:(cnV v t).1<=t.size:=dy c _ _;have e:(cnF v t).2.1<=t.size:=dy d _ _;have f:(cnK v t).2.1<=t.size:=dy e _ _;have g:(cnP v t).2.1<=t.size:=qe f;have a:=Tq t (cnP v t).2.1 (cnP v t).2.2 g;have b:(∀p∈(cnP v t).1,qc p)/\(cnP v t).1.length<=1000:=qg ht;have i:(rcT v t).1.size<=65535:=a.1;exact⟨⟨λ_ h=>(nomatch h),b.1,λ_ h=>(nomatch h),⟨ag _,ag _,aC i (by decide),ag _,ag _,ag _,ag _⟩,ag _,ag _,ag _,aC b.2 (by decide)⟩,a.2⟩
theorem TU(ht:t.size<=140737488351232)(g:RdOk t r):RdOk t (rc2 v t r):=by
 unfold rc2;split
 ·have d:(RV v t r.2.1 r.2.2).2.1<=t.size:=qe g.le;have b:=Tq t _ (RV v t r.2.1 r.2.2).2.2 d;have e:(Sm v t r.2.1 r.2.2).1.size<=65535:=TM t _ _ b.2;have f:(Sm v t r.2.1 r.2.2).2.1<=t.size:=TN t _ _ b.2;have c:(∀p∈(RV v t r.2.1 r.2.2).1,qc p)/\(RV v t r.2.1 r.2.2).1.length<=1000:=qg ht;have h:(SE v t r.2.1 r.2.2).1.size<=65535:=b.1;have a:=g.ok.texts;exact⟨⟨c.1,g.ok.props,g.ok.topics,⟨a.1,a.2.1,a.2.2.1,a.2.2.2.1,a.2.2.2.2.1,aC h (by decide),aC e (by decide)⟩,aC c.2 (by decide),g.ok.lens.2⟩,f⟩
 ·exact g
theorem TS(g:RdOk t r):RdOk t (rc3 t r):=by
 unfold rc3;split
 ·have b:=Tq t r.2.1 r.2.2 g.le;have a:=g.ok.texts;exact⟨⟨g.ok.wp,g.ok.props,g.ok.topics,⟨a.1,a.2.1,a.2.2.1,aC b.1 (by decide),a.2.2.2.2.1,a.2.2.2.2.2⟩,g.ok.lens⟩,b.2⟩
 ·exact g
theorem TR(g:RdOk t r):RdOk t (rc4 t r):=by
 unfold rc4;split
 ·have b:=TM t r.2.1 r.2.2 g.le;have a:=g.ok.texts;exact⟨⟨g.ok.wp,g.ok.props,g.ok.topics,⟨a.1,a.2.1,a.2.2.1,a.2.2.2.1,aC b (by decide),a.2.2.2.2.2⟩,g.ok.lens⟩,TN t _ _ g.le⟩
 ·exact g
theorem Td(ht:t.size<=140737488351232):RdOk t (Rv v t):=TR (TS (TU ht (TV ht)))
theorem SP(h:r.2.1<=t.size):Qx r.1 t r.2.1 r.2.2 (eR v r.1)=jT v t r:=by
 have d:(if r.2.2=0/\r.2.1<t.size then 5 else r.2.2)=oV t r:=by
  unfold oV fh;by_cases b:r.2.2=0
  ·by_cases c:r.2.1<t.size
   ·rw[if_pos ⟨b,c⟩,Fl (by omega),if_pos b]
   ·rw[Fl (λy=>c y.2),if_pos (by omega)]
  ·rw[Fl (λy=>b y.1),Fl b];split<;>rfl
 unfold Qx QE jT;rw[d];by_cases a:oV t r=0
 ·rw[if_pos a,Fl (show ¬(oV t r≠0)from λy=>y a)]
 ·rw[Fl a,if_pos a,if_pos a]
structure RQ (w:abP) (gc gp:Nat) (p:Pk) (h:Hs) (t:abO) (a:Nat) (e:Int) (x:abP):Prop where
 kept:abQ w x
 res:Bk x w.heap.size PkT (pkC pk0 hs0)
 pk:Bk x gp PkT (pkC p h)
 into:PkIn x x.heap.size p h
 flat:p.codes=[]/\p.filters=[]
 cur:IC x gc t a e
 ne:w.heap.size<gc/\gc<gp
section
variable {w x y:abP} {gc gp:Nat} {p p':Pk} {h h':Hs} {t:abO} {a a':Nat} {e e':Int}
theorem RQ.below(c:RQ w gc gp p h t a e x)(hb:abQ x y):RQ w gc gp p h t a e y:=
 ⟨Yf c.kept hb,Yh c.res hb,Yh c.pk hb,c.into.next hb,c.flat,c.cur.below hb,c.ne⟩
theorem RQ.drewN(c:RQ w gc gp p h t a e x)(n:Nat):RQ w gc gp p h t a e (x.drewN n):=c.below (aV (aq _ _) n)
theorem RQ.turn(c:RQ w gc gp p h t a e x)(hc:IC y gc t a' e')(hm:x.grownBy y (some gc)):RQ w gc gp p h t a' e' y:=
 ⟨dw c.kept hm c.kept.size (pf c.ne.1),c.res.mods (S:=λz=>z=gc) (qb hm rfl) (by have:=c.ne;omega),c.pk.mods (S:=λz=>z=gc) (qb hm rfl) (by have:=c.ne;omega),c.into.blk c.flat.1 c.flat.2 c.cur.1 (Io _ _ _) hm,c.flat,hc,c.ne⟩
theorem RQ.put(c:RQ w gc gp p h t a e x)(hi:PkIn x x.heap.size p' h')(hf:p'.codes=[]/\p'.filters=[]):RQ w gc gp p' h' t a e (dE x gp p' h'):=by
 have b:=cJ x gp p' h';exact⟨YQ c.kept c.kept.size (by have:=c.ne;omega) _ _,c.res.mods (S:=λz=>z=gp) (qb b rfl) (by have:=c.ne;omega),cO c.pk _ _,hi.blk hf.1 hf.2 c.pk (dY _ _) b,hf,⟨c.cur.1.mods (S:=λz=>z=gp) (qb b rfl) (by have:=c.ne;omega),c.cur.2⟩,c.ne⟩
end
section
variable {w x y:abP} {gc gp:Nat} {p:Pk} {h:Hs} {t:abO} {a:Nat} {e:Int}
theorem RQ.stay(c:RQ w gc gp p h t a e x)(hm:Mods (λz=>z=gc) x y):PkIn y y.heap.size p h:=c.into.blk c.flat.1 c.flat.2 c.cur.1 (Io _ _ _) hm.grown
theorem RQ.done{r:Pk×Int}{kk:Hs}(c:RQ w gc gp p h t a e x)(hm:x.grownBy y (some gc))(hst:∀z,y.grownBy z (some w.heap.size)->PkIn z z.heap.size r.1 kk):
  abQ w (dE y w.heap.size r.1 kk)/\Bk (dE y w.heap.size r.1 kk) w.heap.size PkT (pkC r.1 kk)/\PkIn (dE y w.heap.size r.1 kk) (dE y w.heap.size r.1 kk).heap.size r.1 kk:=
 ⟨YQ (dw c.kept hm c.kept.size (pf c.ne.1)) (aC c.kept.size hm.size) (ac _) _ _,cO (c.res.mods (S:=λz=>z=gc) (qb hm rfl) (by have:=c.ne;omega)) _ _,hst _ (cJ _ _ _ _)⟩
end
theorem Sh(k:Int)(b:Bool)(c:Int)(w:abP):(qP #[(0,.int .i64 k),(16,.bool b),(17,.int .i64 c)]).run prog w= .ok (pkV {pk0 with kind:=k,session:=b,code:=c} hs0) w:=by kernel_rfl
theorem Tt(w:abP)(B:Nat)(b:Bool)(c:Int):PkIn w B {pk0 with kind:=2,session:=b,code:=c} hs0:=⟨Rd.nil _ _ _ _,Rd.nil _ _ _ _,Rd.nil _ _ _ _,Rd.nil _ _ _ _,ag _,ag _,ag _,ag _⟩
theorem RQ.setP{w x:abP}{gc gp:Nat}{p:Pk}{h:Hs}(c:RQ w gc gp p h t a e x)(hr:Rd x x.heap.size 4 A l.length (prs l))(hn:l.length<=n):
  RQ w gc gp {p with props:=l} {h with props:=⟨A,n⟩} t a e (x.setCell ⟨gp,24,none⟩ (.slice A l.length n)):=by
 have b:=YR x gp 24 (.slice A l.length n);have:=c.into.blk c.flat.1 c.flat.2 c.pk (dY _ _) b;exact⟨dw c.kept b c.kept.size (by have:=c.ne;omega),c.res.other (by have:=c.ne;simp;omega) _,c.pk.upd 24 _ rfl,
  ⟨this.wp,this.codes,this.filters,(hr.other c.pk (dY _ _) b (ac _)).wider b.size,this.caps.1,this.caps.2.1,this.caps.2.2.1,hn⟩,c.flat,⟨c.cur.1.other (by have:=c.ne;simp;omega) _,c.cur.2⟩,c.ne⟩
theorem Sl(v k:Int)(s:abO)(w:abP)(hs:s.size<=140737488351232):
  Calls prog 76 #[.int .i64 v,.int .i64 k,.string s] w (mu (iB v k s) w):=by
 have n:=aa hs;have h:=aa ((aq w.heap.size w).alloc (ac _) (.cells (pkC pk0 hs0) PkT));have m:=aa (Bk.fresh w PkT (pkC pk0 hs0));have aO:=aW m.o;have HE:Hid (iB v k s=if YG v=false\/gm k=false then(pk0,2)else jT v s (if k=1 then jS v s else lL v s)):=aa rfl;clear hs;go_enter func76,ntmps76;go_wp2_with fail;refine(pS v _).mono ?_;rintro e B ⟨rfl,rfl⟩;cases hk:YG v
 ·have HX:Hid (iB v k s=(pk0,2)):=aa (by rw[HE.o,if_pos (.inl hk)]);clear hk;go_wp2;refine abZ (aI rfl _ rfl (cO m.o _ _)) rfl ?_;exact YY HX.o (YQ h.o h.o.size (ac _) _ _)
 have HV:Hid (v=4\/v=5):=aa (aR (show decide (v=4\/v=5)=true from hk));cases ho:gm k
 ·have HX:Hid (iB v k s=(pk0,2)):=aa (by rw[HE.o,if_pos (.inr ho)]);have n1:(k !=1)=true:=aA.2 (λy=>Gy ho (.inl y));have n2:(k !=2)=true:=aA.2 (λy=>Gy ho (.inr y));clear hk ho;go_wp2;refine abZ (aI rfl _ rfl (cO m.o _ _)) rfl ?_;exact YY HX.o (YQ h.o h.o.size (ac _) _ _)
 have HO:=aa (aR ho);have HF:Hid (iB v k s=jT v s (if k=1 then Rv v s else lL v s)):=aa (Tx hk ho);clear hk ho aO HE;by_cases F:k=1
 focus
  have C:(k==1)=true:=aK.2 F;have n1:(k !=1)=false:=by simp[F]
  have j:=aa (Td (v:=v) n.o).ok;have i:Hid (iB v k s=Qx (Rv v s).1 s (Rv v s).2.1 (Rv v s).2.2 (eR v (Rv v s).1)):=aa (by rw[HF.o,if_pos F,SP (Td n.o).le]);clear F;go_wp2_with fail;refine(QN s _ (by have:=n.o;omega)).mono ?_;rintro e B ⟨rfl,q,D⟩;have N:(w.alloc (.cells (pkC pk0 hs0) PkT)).heap.size=w.heap.size+1:=by simp
  rw[N]at q⊢;have HZ:=aa q.lt;have T:Hid (RQ w (w.heap.size+1) B.heap.size pk0 hs0 s 0 0 (B.alloc (.cells (pkC pk0 hs0) PkT))):=aa
   ⟨(Yf h.o D).alloc (Yf h.o D).size _,(Yh m.o D).alloc _,Bk.fresh B PkT _,wM _ _,⟨rfl,rfl⟩,q.below ((aq _ _).alloc (ac _) _),by omega,HZ.o⟩
  clear q D N h m HZ;go_wp2_with fail;refine(RG (w.heap.size+1) s v _ T.o.cur n.o HV.o).mono ?_;rintro e y ⟨kq,rfl,hi,hf,g,f⟩;generalize Rv v s=r at*;obtain⟨P,a,e⟩:=r;simp only at hi hf g j i⊢;have U:=aa (T.o.turn g f);have V:=aa (U.o.put hi hf);have Q:=aW U.o.pk;clear hi hf g f T
 rotate_left
 focus
  have aZ:k=2:=HO.o.resolve_left F;have aD:Hid (iB v k s=jT v s (lL v s)):=aa (HF.o.trans (by rw[Fl F]));clear HF HO F;subst aZ;have j:=aa (yM (v:=v) n.o).ok;have i:Hid (iB v 2 s=Qx (lL v s).1 s (lL v s).2.1 (lL v s).2.2 (eR v (lL v s).1)):=aa (by rw[aD.o,SP (yM n.o).le]);clear aD;go_wp2_with fail;refine(QN s _ (by have:=n.o;omega)).mono ?_;rintro e B ⟨rfl,q,D⟩;have N:(w.alloc (.cells (pkC pk0 hs0) PkT)).heap.size=w.heap.size+1:=by simp
  rw[N]at q⊢;have HZ:=aa q.lt;have T:Hid (RQ w (w.heap.size+1) B.heap.size pk0 hs0 s 0 0 (B.alloc (.cells (pkC pk0 hs0) PkT))):=aa
   ⟨(Yf h.o D).alloc (Yf h.o D).size _,(Yh m.o D).alloc _,Bk.fresh B PkT _,wM _ _,⟨rfl,rfl⟩,q.below ((aq _ _).alloc (ac _) _),by omega,HZ.o⟩
  clear q D N h m HZ;go_wp2_with fail;refine(Qz (w.heap.size+1) 0 s 0 1 _ T.o.cur (by decide)).mono ?_;rintro e' y1 ⟨rfl,g,f⟩;have U:=aa (T.o.turn g f);have ag:Hid (caF s=(br s 0 0 1,(aH s 0 0 1).2.1,if br s 0 0 1<=1 then(aH s 0 0 1).2.2 else fh (aH s 0 0 1).2.2 7)):=aa rfl;generalize br s 0 0 1=n0 at*;generalize (aH s 0 0 1).2.1=a0 at*;generalize (aH s 0 0 1).2.2=e0 at*;clear g f T;obtain⟨G,ax⟩:∃b,((n0:Int)==1)=b:=⟨_,rfl⟩;have aC:Hid (decide (n0=1)=G):=aa (by rw[<-ax,eG,cH,aK];omega);by_cases hq:n0<=1
  focus
   have I:Hid (caF s=(n0,a0,e0)):=aa (by rw[ag.o,if_pos hq]);have dq:¬1<n0:=by omega
   have aV:(n0:Int)<=1:=by omega
   clear hq ag;go_wp2_with fail;refine(Qz (w.heap.size+1) a0 s e0 1 _ U.o.cur (by decide)).mono ?_;rintro e' y2 ⟨rfl,g,f⟩;have I3:=aa (U.o.turn g f);have aj:Hid (caC s=(br s a0 e0 1,(aH s a0 e0 1).2.1,(aH s a0 e0 1).2.2)):=aa (by unfold caC;rw[I.o]);have an:=aa (iV s a0 e0);generalize br s a0 e0 1=c0 at*;generalize (aH s a0 e0 1).2.1=a1 at*;generalize (aH s a0 e0 1).2.2=C at*;have ay:IntKind.i64.wrap (c0:Int)=(c0:Int):=by rw[aQ];have:=an.o;omega
   have aw:=Sh 2 G (c0:Int);have W:=aa (I3.o.put (p':={pk0 with kind:=2,session:=G,code:=(c0:Int)}) (h':=hs0) (Tt _ _ _ _) ⟨rfl,rfl⟩);have Q:=aW I3.o.pk;clear g f;obtain⟨Y,hY⟩:∃Y,dE y2 B.heap.size {pk0 with kind:=2,session:=G,code:=(c0:Int)} hs0=Y:=⟨_,rfl⟩;rw[hY]at W;go_wp2_with fail;clear Q aw ay ax;refine(QD v 2 (w.heap.size+1) a1 s C _ W.o.cur n.o).mono ?_;rintro e' y ⟨A,c,rfl,u,H,g,f⟩;rw[Ro]at u H g⊢;have J:Hid (lL v s=(Ds n0 c0 (fv v 2 s a1 C).1,(fv v 2 s a1 C).2.1,(fv v 2 s a1 C).2.2)):=aa (by unfold lL caP;rw[aj.o,I.o]);generalize fv v 2 s a1 C=r at*;obtain⟨l,a,e⟩:=r;simp only at u H g J⊢;rw[J.o]at i j;simp only at i j;have X:=aa (W.o.turn g f);have o:=aa (X.o.setP H u);have aX:=X.o.pk.free 24;have a3:=(X.o.pk.cell 24).trans (bR _ _)
   have ap:Hid (({pk0 with kind:=2,session:=G,code:=(c0:Int),props:=l}:Pk)=Ds n0 c0 l):=aa (by rw[<-aC.o];rfl);rw[ap.o]at o;obtain⟨P,hP⟩:∃P,Ds n0 c0 l=P:=⟨_,rfl⟩;obtain⟨kq,O⟩:∃K:Hs,{hs0 with props:=⟨A,c⟩}=K:=⟨_,rfl⟩;rw[hP,O]at o;rw[hP]at i j;clear u H g f hP O;have V:=o;clear o;obtain⟨Z,hZ⟩:∃Z,y.setCell ⟨B.heap.size,24,none⟩ (.slice A l.length c)=Z:=⟨_,rfl⟩;rw[hZ]at V
  rotate_left
  focus
   have I:Hid (caF s=(n0,a0,fh e0 7)):=aa (by rw[ag.o,Fl hq]);have dq:1<n0:=by omega
   have aV:(1:Int)<(n0:Int):=by omega
   clear hq ag;go_wp2_with fail;refine(Qv (w.heap.size+1) a0 s e0 7 _ U.o.cur).mono ?_;rintro e' yf ⟨rfl,g,f⟩;have aE:=aa (U.o.turn g f);have IF:Hid (RQ w (w.heap.size+1) B.heap.size pk0 hs0 s a0 (fh e0 7) yf):=aE;clear g f aE;generalize fh e0 7=ef at*;go_wp2_with fail;refine(Qz (w.heap.size+1) a0 s ef 1 _ IF.o.cur (by decide)).mono ?_;rintro e' y2 ⟨rfl,g,f⟩;have I3:=aa (IF.o.turn g f);have aj:Hid (caC s=(br s a0 ef 1,(aH s a0 ef 1).2.1,(aH s a0 ef 1).2.2)):=aa (by unfold caC;rw[I.o]);have an:=aa (iV s a0 ef);generalize br s a0 ef 1=c0 at*;generalize (aH s a0 ef 1).2.1=a1 at*;generalize (aH s a0 ef 1).2.2=C at*;have ay:IntKind.i64.wrap (c0:Int)=(c0:Int):=by rw[aQ];have:=an.o;omega
   have aw:=Sh 2 G (c0:Int);have W:=aa (I3.o.put (p':={pk0 with kind:=2,session:=G,code:=(c0:Int)}) (h':=hs0) (Tt _ _ _ _) ⟨rfl,rfl⟩);have Q:=aW I3.o.pk;clear g f;obtain⟨Y,hY⟩:∃Y,dE y2 B.heap.size {pk0 with kind:=2,session:=G,code:=(c0:Int)} hs0=Y:=⟨_,rfl⟩;rw[hY]at W;go_wp2_with fail;clear Q aw ay ax;refine(QD v 2 (w.heap.size+1) a1 s C _ W.o.cur n.o).mono ?_;rintro e' y ⟨A,c,rfl,u,H,g,f⟩;rw[Ro]at u H g⊢;have J:Hid (lL v s=(Ds n0 c0 (fv v 2 s a1 C).1,(fv v 2 s a1 C).2.1,(fv v 2 s a1 C).2.2)):=aa (by unfold lL caP;rw[aj.o,I.o]);generalize fv v 2 s a1 C=r at*;obtain⟨l,a,e⟩:=r;simp only at u H g J⊢;rw[J.o]at i j;simp only at i j;have X:=aa (W.o.turn g f);have o:=aa (X.o.setP H u);have aX:=X.o.pk.free 24;have a3:=(X.o.pk.cell 24).trans (bR _ _)
   have ap:Hid (({pk0 with kind:=2,session:=G,code:=(c0:Int),props:=l}:Pk)=Ds n0 c0 l):=aa (by rw[<-aC.o];rfl);rw[ap.o]at o;obtain⟨P,hP⟩:∃P,Ds n0 c0 l=P:=⟨_,rfl⟩;obtain⟨kq,O⟩:∃K:Hs,{hs0 with props:=⟨A,c⟩}=K:=⟨_,rfl⟩;rw[hP,O]at o;rw[hP]at i j;clear u H g f hP O;have V:=o;clear o;obtain⟨Z,hZ⟩:∃Z,y.setCell ⟨B.heap.size,24,none⟩ (.slice A l.length c)=Z:=⟨_,rfl⟩;rw[hZ]at V
  rotate_left
 rotate_left 2
 all_goals
  have L:=cf (V.o.pk.drewN 1);go_wp2_with fail;refine je (λw'=>(kZ (.pointer (some ⟨B.heap.size,0,none⟩))).run prog w'= .ok (pkV (P) kq) w') [5] (by kernel_rfl) ?_;refine Yi 0 [5] rfl L ?_;refine Yi 1 [5] rfl L ?_;refine Yi 2 [4,5] rfl L ?_;refine Yi 3 [4,5] rfl L ?_;refine Up 4 rfl (λK E=>?_);go_simp;go_at_call 116;refine Yg (Ic v P kq _ (V.o.drewN 1).into j.o) λz1 D=>?_;have M:=aa ((V.o.drewN 1).below D);clear D L
  have L:=cf M.o.pk;go_simp;refine E.out _ _ (λ_=>L) ?_;clear E K;refine Up 5 rfl (λK E=>?_);go_simp;go_at_call 115;refine(QF (w.heap.size+1) a s e (eR v P) (P) kq _ M.o.cur (λy f=>M.o.stay f)).mono ?_;rintro e' z2 ⟨kk,rfl,hi,f⟩;go_simp;refine E.out _ _ (λhn=>absurd (hn 5 (by simp)) (by decide)) (mc (d:=5) (by simp) _ _ _ _ (by kernel_rfl) ?_);clear E K L;have ar:=aa (QI (p:=P) (t:=s) (a:=a) (e:=e) (x:=eR v P) M.o.flat.1 M.o.flat.2);obtain⟨R,hR⟩:∃R,Qx P s a e (eR v P)=R:=⟨_,rfl⟩;rw[hR]at hi i ar⊢;clear hR;have aT:Hid (∀y,z2.grownBy y (some w.heap.size)->PkIn y y.heap.size R.1 kk):=aa (λy hy=>qD hi ar.o.1 ar.o.2 (M.o.res.mods (S:=λz=>z=w.heap.size+1) (qb f rfl) (by omega)) (dY _ _) hy);have ao:=aa (M.o.done (r:=R) f aT.o);have Q:=aW (M.o.res.mods (S:=λz=>z=w.heap.size+1) (qb f rfl) (by omega));refine Yj 6 rfl ?_;refine Yj 7 rfl ?_;refine Uq 8 rfl (λK E=>?_);go_simp;refine E.out _ _ ?_;clear E K;refine Uq 9 rfl (λK E=>?_);go_simp;refine E.out _ _ ?_;clear E K;refine QB (by kernel_rfl) ?_ _;go_wp2;refine abZ (aI rfl _ rfl ao.o.2.1) rfl ?_;rw[i.o];exact⟨kk,rfl,ao.o.2.2,ao.o.1⟩
end
