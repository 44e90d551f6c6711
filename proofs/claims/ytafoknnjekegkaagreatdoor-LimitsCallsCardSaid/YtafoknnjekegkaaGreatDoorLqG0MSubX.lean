/- Parts: MSubX, RhC, RhD, RhE, Rsp. -/
import Derived.Test.YtafoknnjekegkaaGreatDoorLqG0LcB
set_option maxRecDepth 10000
set_option maxHeartbeats 8000000
namespace Go.Proofs.YtafoknnjekegkaaGreatDoor
open Go.RowKit Go.Proofs.Tryz
variable {y w x:abP}{gc n:Nat}{F:Hd}
section
structure SRd (w wL:abP) (g gp gc:Nat) (k i:Int) (l:List Pr) (A:Option Addr) (n:Nat) (t:abO) (fi:List Fi) (cd:List Int) (F C:Hd) (a:Nat) (e:Int) (x:abP):Prop where
 kept:abQ w x
 res:Bk x g PkT (pkC pk0 hs0)
 pk:Bk x gp PkT (pkC {aP k i 0 l with filters:=fi,codes:=cd} {hs0 with props:=⟨A,n⟩,filters:=F,codes:=C})
 cur:IC x gc t a e
 rd:Rd x wL.heap.size 4 A l.length (prs l)
 cap:l.length<=n
 ne:g≠gp/\g≠gc/\gp≠gc
 base:w.heap.size<=g/\w.heap.size<=gp/\w.heap.size<=gc
 lt:g<wL.heap.size/\gp<wL.heap.size/\gc<wL.heap.size
 size:w.heap.size<=wL.heap.size/\wL.heap.size<=x.heap.size
section
variable {w wL x y:abP} {g gp gc:Nat} {k i:Int} {l:List Pr} {A:Option Addr} {n:Nat} {fi fi':List Fi} {cd cd':List Int} {F F' C C':Hd} {t:abO} {a a':Nat} {e e':Int}
theorem SRd.belowL(s:SRd w wL g gp gc k i l A n t fi cd F C a e x)(hb:Below wL.heap.size x y):SRd w wL g gp gc k i l A n t fi cd F C a e y:=
 ⟨s.kept.trans (hb.mono s.size.1),s.res.below hb s.lt.1,s.pk.below hb s.lt.2.1,⟨s.cur.1.below hb s.lt.2.2,s.cur.2⟩,s.rd.below hb,s.cap,s.ne,s.base,s.lt,s.size.1,aC s.size.2 hb.size⟩
theorem SRd.below(s:SRd w wL g gp gc k i l A n t fi cd F C a e x)(hb:abQ x y):SRd w wL g gp gc k i l A n t fi cd F C a e y:=s.belowL (hb.mono s.size.2)
theorem SRd.drewN(s:SRd w wL g gp gc k i l A n t fi cd F C a e x)(m:Nat):SRd w wL g gp gc k i l A n t fi cd F C a e (x.drewN m):=s.below (aV (aq _ _) m)
theorem SRd.alloc(s:SRd w wL g gp gc k i l A n t fi cd F C a e x)(o:Obj):SRd w wL g gp gc k i l A n t fi cd F C a e (x.alloc o):=s.below ((aq _ _).alloc (ac _) o)
theorem SRd.grown(s:SRd w wL g gp gc k i l A n t fi cd F C a e x){r:Option Nat}(hg:x.grownBy y r)(hr:∀q,r=some q->wL.heap.size<=q):SRd w wL g gp gc k i l A n t fi cd F C a e y:=
 s.belowL ((aq wL.heap.size x).grown hg s.size.2 hr)
theorem SRd.turn(s:SRd w wL g gp gc k i l A n t fi cd F C a e x)(hc:IC y gc t a' e')(hm:Mods (λz=>z=gc) x y):SRd w wL g gp gc k i l A n t fi cd F C a' e' y:=
 ⟨hm.below s.kept s.kept.size (λq c=>by rw[show q=gc from c];exact s.base.2.2),s.res.mods hm s.ne.2.1,s.pk.mods hm s.ne.2.2,hc,
  DY s.rd s.cur.1 s.cur.1 (Yo _ _ _) (Yo _ _ _) (hm.mono (λi _ b=>.inl b)) s.size.2,s.cap,s.ne,s.base,s.lt,s.size.1,aC s.size.2 hm.size⟩
theorem SRd.put(s:SRd w wL g gp gc k i l A n t fi cd F C a e x)(j:Nat)(u:Value)
  (hu:(pkC {aP k i 0 l with filters:=fi,codes:=cd} {hs0 with props:=⟨A,n⟩,filters:=F,codes:=C}).setIfInBounds j u=pkC {aP k i 0 l with filters:=fi',codes:=cd'} {hs0 with props:=⟨A,n⟩,filters:=F',codes:=C'}):
  SRd w wL g gp gc k i l A n t fi' cd' F' C' a e (x.setCell ⟨gp,j,none⟩ u):=by
 have b:=YR x gp j u;exact⟨dw s.kept b s.kept.size s.base.2.1,s.res.other (by simpa using s.ne.1) _,s.pk.upd j u hu,⟨s.cur.1.other (by simpa using s.ne.2.2.symm) _,s.cur.2⟩,
  DY s.rd s.pk s.pk (dY _ _) (dY _ _) (qb b (.inl rfl)) s.size.2,s.cap,s.ne,s.base,s.lt,s.size.1,aC s.size.2 b.size⟩
end
theorem iE.turn{l:List Fi}(h:iE w x l F)(hm:Mods (λz=>z=gc) x y)(hg:gc<w.heap.size):iE w y l F:=jg h hm (λk a e=>by have:=(cX h k a).1;have e:k=gc:=e;omega)
theorem lR.turn{l:List Int}(h:lR w x l F)(hm:Mods (λz=>z=gc) x y)(hg:gc<w.heap.size):lR w y l F:=jg h hm (λk a e=>by have:=(cX h k a).1;have e:k=gc:=e;omega)
def TC(g:Nat)(h:Hs)(r:Pk×Int)(w:abP)(e:Ending)(w':abP):Prop:=∃k,(k=h\/(k=hs0/\r.1=pk0))/\e= .returned (.tuple #[pkV r.1 k,.int .i64 r.2])/\PkIn w' w'.heap.size r.1 k/\w.grownBy w' (some g)
theorem Rm(g a:Nat)(t:abO)(e x:Int)(p:Pk)(h:Hs)(w:abP)(hc:IC w g t a e)(hi:∀y,Mods (λz=>z=g) w y->PkIn y y.heap.size p h):
  Calls prog 115 #[.pointer (some ⟨g,0,none⟩),pkV p h,.int .i64 x] w (TC g h (Qx p t a e x) w):=by
 have G:=aa hi;have s:Hid (DS w g p h t a e ((w.alloc (.cells (pkC p h) PkT)).alloc (.cells (pkC pk0 hs0) PkT))):=aa
  ⟨(Mods.refl w).alloc _ |>.alloc _,(Bk.fresh w PkT (pkC p h)).alloc _,by
    have:=Bk.fresh (w.alloc (.cells (pkC p h) PkT)) PkT (pkC pk0 hs0);rwa[show(w.alloc (.cells (pkC p h) PkT)).heap.size=w.heap.size+1 by simp]at this,⟨(hc.1.alloc _).alloc _,hc.2⟩,hc.lt⟩
 have q:Hid (Qx p t a e x=if QE t a e x≠0 then(pk0,QE t a e x)else(p,0)):=aa rfl;have o:Hid (QE t a e x=if(if e=0/\a<t.size then 5 else e)=0 then x else(if e=0/\a<t.size then 5 else e)):=aa rfl;clear hc hi;obtain⟨⟨f,i,j⟩,-⟩:=s.o.cur.cells;go_enter func115,ntmps115;by_cases E:e=0;rotate_left
 focus
  have P:(e==0)=false:=ar.2 E;have k:Hid (QE t a e x=if e=0 then x else e):=aa (by rw[o.o,Fl (show ¬(e=0/\a<t.size)from λy=>E y.1)]);clear E;clear f i j;obtain⟨⟨f,i,j⟩,-⟩:=s.o.cur.cells;go_wp2_with fail;refine(Qv g a t _ x _ s.o.cur).mono ?_;rintro B u ⟨rfl,c,m⟩;have b:=aa (s.o.turn c m);clear c m f i j
  rw[<-k.o]at b;obtain⟨d,l⟩:∃d,QE t a e x=d:=⟨_,rfl⟩;rw[l]at b q;clear k o l;obtain⟨⟨f,i,j⟩,-⟩:=b.o.cur.cells;have D:=aW b.o.res;by_cases n:d=0
  ·subst n;have r:Hid (Qx p t a e x=(p,0)):=aa (by rw[q.o,Fl (λy=>y rfl)]);have J:=cf b.o.pk;go_wp2;refine abZ (aI rfl _ rfl (cO b.o.res _ _)) rfl ?_;rw[r.o];exact⟨h,.inl rfl,rfl,G.o _ (b.o.put _ _),(b.o.put _ _).grown⟩
  focus
   have r:Hid (Qx p t a e x=(pk0,d)):=aa (by rw[q.o,if_pos n])
  rotate_left
 rotate_left;subst E;by_cases A:a<t.size
 focus
  have K:0<t.size- a:=by omega
  have k:Hid (QE t a 0 x=if(5:Int)=0 then x else 5):=aa (by rw[o.o,if_pos (show(0:Int)=0/\a<t.size from⟨rfl,A⟩)]);clear A;go_wp2_with fail;refine Yg (Qy g a t 0 _ s.o.cur) λM C=>?_;have F:=aa (s.o.below C);clear C f i j
  obtain⟨⟨f,i,j⟩,-⟩:=F.o.cur.cells;go_wp2_with fail;refine(Qv g a t 0 5 _ F.o.cur).mono ?_;rintro B R ⟨rfl,c,m⟩;rw[if_pos rfl]at c;have v:=aa (F.o.turn c m);clear c m
  clear f i j;obtain⟨⟨f,i,j⟩,-⟩:=v.o.cur.cells;go_wp2_with fail;refine(Qv g a t _ x _ v.o.cur).mono ?_;rintro B u ⟨rfl,c,m⟩;have b:=aa (v.o.turn c m);clear c m f i j
  rw[<-k.o]at b;obtain⟨d,l⟩:∃d,QE t a 0 x=d:=⟨_,rfl⟩;rw[l]at b q;clear k o l;obtain⟨⟨f,i,j⟩,-⟩:=b.o.cur.cells;have D:=aW b.o.res;by_cases n:d=0
  ·subst n;have r:Hid (Qx p t a 0 x=(p,0)):=aa (by rw[q.o,Fl (λy=>y rfl)]);have J:=cf b.o.pk;go_wp2;refine abZ (aI rfl _ rfl (cO b.o.res _ _)) rfl ?_;rw[r.o];exact⟨h,.inl rfl,rfl,G.o _ (b.o.put _ _),(b.o.put _ _).grown⟩
  focus
   have r:Hid (Qx p t a 0 x=(pk0,d)):=aa (by rw[q.o,if_pos n])
  rotate_left
 rotate_left
 focus
  have K:¬0<t.size- a:=by omega
  have k:Hid (QE t a 0 x=x):=aa (by rw[o.o,Fl (show ¬((0:Int)=0/\a<t.size)from λy=>A y.2),if_pos rfl]);clear A;go_wp2_with fail;refine Yg (Qy g a t 0 _ s.o.cur) λM C=>?_;have v:=aa (s.o.below C);clear C
  clear f i j;obtain⟨⟨f,i,j⟩,-⟩:=v.o.cur.cells;go_wp2_with fail;refine(Qv g a t _ x _ v.o.cur).mono ?_;rintro B u ⟨rfl,c,m⟩;rw[if_pos rfl]at c;have b:=aa (v.o.turn c m);clear c m f i j
  rw[<-k.o]at b;obtain⟨d,l⟩:∃d,QE t a 0 x=d:=⟨_,rfl⟩;rw[l]at b q;clear k o l;obtain⟨⟨f,i,j⟩,-⟩:=b.o.cur.cells;have D:=aW b.o.res;by_cases n:d=0
  ·subst n;have r:Hid (Qx p t a 0 x=(p,0)):=aa (by rw[q.o,Fl (λy=>y rfl)]);have J:=cf b.o.pk;go_wp2;refine abZ (aI rfl _ rfl (cO b.o.res _ _)) rfl ?_;rw[r.o];exact⟨h,.inl rfl,rfl,G.o _ (b.o.put _ _),(b.o.put _ _).grown⟩
  focus
   have r:Hid (Qx p t a 0 x=(pk0,d)):=aa (by rw[q.o,if_pos n])
  rotate_left
 rotate_left
 all_goals
  have Q:(d !=0)=true:=aA.2 n;clear n;go_wp2_with fail;have L:(zc (.pointer (some ⟨w.heap.size+1,0,none⟩)) (pkV pk0 hs0)).run prog u.drew= .ok () (dE u.drew (w.heap.size+1) pk0 hs0):=aW (b.o.res.drewN 1) pk0 hs0;have O:u.drew.cell? ⟨g,2,none⟩=some (.int .i64 d):=(b.o.cur.1.drewN 1).cell 2;have N:(dE u.drew (w.heap.size+1) pk0 hs0).cell? ⟨g,2,none⟩=some (.int .i64 d):=by
   have I:=(b.o.cur.1.drewN 1).mods (S:=λz=>z=w.heap.size+1) (qb (cJ (u.drewN 1) (w.heap.size+1) pk0 hs0) rfl) (by have:=b.o.lt;omega);exact I.cell 2
  have H:Hid (DS w g p h t a d u.drew):=aa ⟨b.o.mods.drewN 1,b.o.pk.drewN 1,b.o.res.drewN 1,b.o.cur.drewN 1,b.o.lt⟩;clear D
  go_region_law (fail)
  all_goals
   go_wp2;refine abZ (aI rfl _ rfl (cO H.o.res _ _)) rfl ?_;rw[r.o];exact⟨hs0,.inr ⟨rfl,rfl⟩,rfl,⟨Rd.nil _ _ _ _,Rd.nil _ _ _ _,Rd.nil _ _ _ _,Rd.nil _ _ _ _,ag _,ag _,ag _,ag _⟩,(H.o.put _ _).grown⟩
section
variable {w wL x:abP} {g gp gc:Nat} {k i:Int} {t:abO} {a:Nat} {e:Int}
theorem SRd.props{l:List Pr}{A:Option Addr}(s:SRd w wL g gp gc k i [] none 0 t [] [] hd0 hd0 a e x)(hr:Rd x x.heap.size 4 A l.length (prs l))(hc:l.length<=n):
  SRd w (x.setCell ⟨gp,24,none⟩ (.slice A l.length n)) g gp gc k i l A n t [] [] hd0 hd0 a e (x.setCell ⟨gp,24,none⟩ (.slice A l.length n)):=by
 have b:=YR x gp 24 (.slice A l.length n);have c:Bk (x.setCell ⟨gp,24,none⟩ (.slice A l.length n)) g PkT (pkC pk0 hs0):=s.res.other (by simpa using s.ne.1) _;have d:Bk (x.setCell ⟨gp,24,none⟩ (.slice A l.length n)) gp PkT (pkC {aP k i 0 l with filters:=[],codes:=[]} {hs0 with props:=⟨A,n⟩,filters:=hd0,codes:=hd0}):=s.pk.upd 24 _ rfl;have f:IC (x.setCell ⟨gp,24,none⟩ (.slice A l.length n)) gc t a e:=⟨s.cur.1.other (by simpa using s.ne.2.2.symm) _,s.cur.2⟩;have h:=dw s.kept b s.kept.size s.base.2.1;exact⟨h,c,d,f,(DY hr s.pk s.pk (dY _ _) (dY _ _) (qb b (.inl rfl)) (ac _)).wider b.size,hc,s.ne,s.base,⟨c.lt,d.lt,f.lt⟩,h.size,ac _⟩
end
theorem SRd.stay{wL:abP}{g gp:Nat}{k i:Int}{l:List Pr}{A:Option Addr}{fi:List Fi}{cd:List Int}{C:Hd}{t:abO}{a:Nat}{e:Int}(s:SRd w wL g gp gc k i l A n t fi cd F C a e x)(hF:iE wL x fi F)(hC:lR wL x cd C)(hm:Mods (two gc g) x y):
  PkIn y y.heap.size {aP k i 0 l with filters:=fi,codes:=cd} {hs0 with props:=⟨A,n⟩,filters:=F,codes:=C}:=by
 have f:=s.lt;have c:iE wL y fi F:=jg hF hm (λk d e=>by have:=(cX hF k d).1;rcases e with e| e<;>omega);have b:lR wL y cd C:=jg hC hm (λk d e=>by have:=(cX hC k d).1;rcases e with e| e<;>omega);exact⟨Rd.nil _ _ _ _,b.into.1,c.into.1,(DY s.rd s.cur.1 s.res (Yo _ _ _) (dY _ _) hm s.size.2).wider (aC s.size.2 hm.size),ag _,b.into.2,c.into.2,s.cap⟩
theorem Tv(v k:Int):ir v k=(YG v&&It k):=by
 unfold ir YG It;rw[<-Ij,<-Ij]
theorem abD(v k:Int)(s:abO)(w:abP)(hs:s.size<=1000000000000):
  Calls prog 79 #[.int .i64 v,.int .i64 k,.string s] w (qT (sbR v k s) w):=by
 have g:=aa hs;have an:=aa ((aq w.heap.size w).alloc (ac _) (.cells (pkC pk0 hs0) PkT));have aB:=aa (Bk.fresh w PkT (pkC pk0 hs0));have bT:=aW aB.o;have bd:=aa (Tv v k);clear hs;go_enter func79,ntmps79;go_wp2_with fail;refine(pS v _).mono ?_;rintro e w1 ⟨rfl,rfl⟩;cases hk:YG v
 ·have HX:Hid (sbR v k s=(pk0,2)):=aa (by unfold sbR;rw[if_pos (by rw[bd.o,hk];rfl)]);clear hk;go_wp2;refine abZ (aI rfl _ rfl (cO aB.o _ _)) rfl ?_;exact kN HX.o (YQ an.o an.o.size (ac _) _ _)
 go_wp2_with fail;refine(Mn k _).mono ?_;rintro e w1 ⟨rfl,rfl⟩;cases hr:It k
 ·have HX:Hid (sbR v k s=(pk0,2)):=aa (by unfold sbR;rw[if_pos (by rw[bd.o,hk,hr];rfl)]);clear hk hr;go_wp2;refine abZ (aI rfl _ rfl (cO aB.o _ _)) rfl ?_;exact kN HX.o (YQ an.o an.o.size (ac _) _ _)
 have HK:Hid (ir v k=true):=aa (by rw[bd.o,hk,hr];rfl);have HV:Hid (v=4\/v=5):=aa (aR hk);clear hk hr bT;go_wp2_with fail;refine(QN s _ (by have:=g.o;omega)).mono ?_;rintro e w1 ⟨rfl,E,G⟩;have bO:(w.alloc (.cells (pkC pk0 hs0) PkT)).heap.size=w.heap.size+1:=by simp
 have bE:=aa (Yf an.o G);have cb:=aa (Yh aB.o G)
 rw[bO]at E⊢;have b7:=aa E;clear E G bO;go_wp2_with fail;refine(Qz (w.heap.size+1) 0 s 0 2 _ b7.o (by decide)).mono ?_;rintro e w2 ⟨rfl,E,B⟩;have aY:=aa (dw bE.o B bE.o.size (by omega));have aD:=aa (cb.o.mods (S:=λz=>z=w.heap.size+1) (qb B rfl) (by omega));have ao:=aa E
 have HZ:=aa ao.o.lt;have bQ:=gU s 0 0 (by omega);obtain⟨m,bt⟩:∃m,br s 0 0 2=m:=⟨_,rfl⟩;rw[bt]at bQ⊢;have bH:=aa bt;obtain⟨TK,bn⟩:∃T,aH s 0 0 2=T:=⟨_,rfl⟩;have bI:Hid (lh v k s=fv v k s TK.2.1 TK.2.2):=aa (by unfold lh;rw[bn]);rw[bn]at ao;clear E B bt bn;obtain⟨T0,a0,e0⟩:=TK;simp only at bI ao;obtain⟨V,bs⟩:∃V:Int,V=(m:Int):=⟨_,rfl⟩;have hw:IntKind.i64.wrap (m:Int)=V:=by rw[bs,aQ];omega
 have HM:Hid (V=(m:Int)):=aa bs;clear bQ bs;obtain⟨W0,bo⟩:∃W0,w2.alloc (.cells (pkC (aP k V 0 []) hs0) PkT)=W0:=⟨_,rfl⟩;have I3:Hid (SRd w W0 w.heap.size w2.heap.size (w.heap.size+1) k V [] none 0 s [] [] hd0 hd0 a0 e0 W0):=aa (by
  rw[<-bo];exact⟨aY.o.alloc aY.o.size _,aD.o.alloc _,Bk.fresh _ _ _,⟨ao.o.1.alloc _,ao.o.2⟩,Rd.nil _ _ _ _,ac _,⟨by have:=HZ.o;omega,by omega,by have:=HZ.o;omega⟩,⟨ac _,by have:=HZ.o;omega,by omega⟩,
   ⟨(aD.o.alloc _).lt,(Bk.fresh w2 PkT _).lt,(ao.o.1.alloc _).lt⟩,(aY.o.alloc aY.o.size _).size,ac _⟩)
 go_wp2_with fail;rw[vS,bo];refine(QD v k (w.heap.size+1) a0 s e0 _ I3.o.cur (by have:=g.o;omega)).mono ?_;rintro e' x1 ⟨A,q,rfl,aJ,hr,E,B⟩;rw[Ro,<-bI.o]at aJ hr E⊢;have I4:=aa (I3.o.turn E (qb B rfl));obtain⟨R,hR⟩:∃R,lh v k s=R:=⟨_,rfl⟩;rw[hR]at aJ hr E I4⊢;have a3:=aa hR;clear hR;obtain⟨l,a1,e1⟩:=R;simp only at aJ hr E I4⊢;have ck:=I4.o.pk.free 24;have cs:=(I4.o.pk.cell 24).trans (bR _ _);have I5:=aa (I4.o.props hr aJ);obtain⟨Q,bL⟩:∃Q,x1.setCell ⟨w2.heap.size,24,none⟩ (.slice A l.length q)=Q:=⟨_,rfl⟩;rw[bL]at I5;clear aJ hr E B hw bo I3;generalize co:w2.heap.size=gp at*;go_wp2;clear bL co ck cs I4;obtain⟨aF,bm⟩:∃R,lsR v k s (s.size+1) a1 e1 [] []=R:=⟨_,rfl⟩;have aN:=aa bm;clear bm
 go_loopg [] (s.size+1) (λn wr=>∃(a:Nat) (e:Int) (p:List Fi) (j:List Int) (F C:Hd),lsR v k s n a e p j=aF/\(e=0->s.size- a<n)/\(e=0->p.length<=a/\j.length<=a)/\((jm k=true->j=[]/\C=hd0)/\(jm k=false->p=[]/\F=hd0))/\
  SRd w Q w.heap.size gp (w.heap.size+1) k V l A q s p j F C a e wr/\iE Q wr p F/\lR Q wr j C)
 case atStart=>exact⟨a1,e1,[],[],hd0,hd0,aN.o,λ_=>by omega,λ_=>⟨ag _,ag _⟩,⟨λ_=>⟨rfl,rfl⟩,λ_=>⟨rfl,rfl⟩⟩,I5.o,dD _ _ _ _,dD _ _ _ _⟩
 case round=>
  obtain⟨a,e,p,j,F,C,hl,bN,bq,bv,hI,hF,hC⟩:=hrel;have bf:=aa bv;clear bv
  have HL:=aa hl;have bc:=aa bN;have au:=aa bq;have I:=aa hI;have OF:=aa hF;have OC:=aa hC
  clear hl bN bq hI hF hC;have ce:=I.o.cur.cells.1.2.2;by_cases he:e=0;rotate_left
  focus
   have cE:(e==0)=false:=ar.2 he;have HX:Hid (aF=(p,j,a,e)):=aa (by rw[<-HL.o,Es he]);have bb:Hid (e≠0\/s.size<=a):=aa (.inl he);clear he;have aL:Hid (e≠0\/s.size<=a):=aa bb.o;have ab:li v k s=(p,j,a,e):=by unfold li;rw[a3.o];exact aN.o.trans HX.o
   have O:=I.o.pk;have D:Hid (∀y,Mods (two (w.heap.size+1) w.heap.size) wr y->PkIn y y.heap.size {aP k V 0 l with filters:=p,codes:=j} {hs0 with props:=⟨A,q⟩,filters:=F,codes:=C}):=aa (λy hy=>I.o.stay OF.o OC.o hy);have a2:Hid (∀b o,({hs0 with props:=⟨A,q⟩,filters:=F,codes:=C}:Hs).codes.a=some ⟨b,o,none⟩->w.heap.size<=b):=aa (λb o e=>aC I.o.size.1 (cX OC.o b (by rw[show C.a=some ⟨b,o,none⟩from e];rfl)).1);obtain⟨P,hP⟩:∃P:Pk,({aP k V 0 l with filters:=p,codes:=j}:Pk)=P:=⟨_,rfl⟩;obtain⟨H,hH⟩:∃H:Hs,({hs0 with props:=⟨A,q⟩,filters:=F,codes:=C}:Hs)=H:=⟨_,rfl⟩;have Y:Hid (jj v k s=P):=aa (by unfold jj;rw[ab,a3.o,bH.o,<-hP,HM.o];rfl);rw[hP,hH]at O D;rw[hH]at a2;have aA:=aa O;have bh:Hid (PkOk P):=aa (by rw[<-Y.o];exact lU (by have:=g.o;omega));have a4:Hid (sbR v k s=Qx P s a e (sbE v P)):=aa (by
    unfold sbR;rw[Fl (by rw[HK.o];decide),ab,Y.o];simp only;unfold Qx QE;rw[Fl (show ¬(e=0/\a<s.size)from λy=>by rcases aL.o with h| h;exact h y.1;omega)];by_cases J:(e:Int)=0
    ·rw[Fl (λx=>x J),if_pos J]
    ·rw[if_pos J,Fl J,if_pos J])
   have t:=cf (O.drewN 1);clear ab hP hH O;go_wp2_with fail;refine je (λw'=>(kZ (.pointer (some ⟨gp,0,none⟩))).run prog w'= .ok (pkV P H) w') [5] (by kernel_rfl) ?_;refine Yi 0 [5] rfl t ?_;refine Yi 1 [5] rfl t ?_;refine Yi 2 [4,5] rfl t ?_;refine Yi 3 [4,5] rfl t ?_;refine Up 4 rfl (λK i=>?_);go_simp;go_at_call 126;refine Yg (Kh v P H _ (D.o _ ((Mods.refl _).drewN 1)) bh.o) λz1 G=>?_;have L:=aa ((I.o.drewN 1).below G);have az:Hid (Mods (two (w.heap.size+1) w.heap.size) wr z1):=aa (((Mods.refl _).drewN 1).trans (qk G));have KP:=aa ((aA.o.drewN 1).below G (aA.o.drewN 1).lt);clear G t;have t:=cf KP.o;go_simp;refine i.out _ _ (λ_=>t) ?_;clear i K;refine Up 5 rfl (λK i=>?_);go_simp;go_at_call 115;refine(Rm (w.heap.size+1) a s e (sbE v P) P H _ L.o.cur (λy B=>D.o y (az.o.trans (B.mono (λ_ _ h=>.inl h))))).mono ?_;rintro e' z2 ⟨kk,Z,rfl,hi,B⟩;go_simp;refine i.out _ _ (λhn=>absurd (hn 5 (by simp)) (by decide)) (mc (d:=5) (by simp) _ _ _ _ (by kernel_rfl) ?_);clear i K t;have aE:Hid ((Qx P s a e (sbE v P)).1=P\/(Qx P s a e (sbE v P)).1=pk0):=aa (by unfold Qx;split;exact .inr rfl;exact .inl rfl);obtain⟨R,hR⟩:∃R,Qx P s a e (sbE v P)=R:=⟨_,rfl⟩;rw[hR]at hi Z a4 aE⊢;clear hR;have bJ:Hid (∀y,z2.grownBy y (some w.heap.size)->PkIn y y.heap.size R.1 kk):=aa (λy hy=>by
    have bu:Mods (two (w.heap.size+1) w.heap.size) wr y:=az.o.trans ((qb B (.inl rfl)).trans (qb hy (.inr rfl)));rcases aE.o with U| U
    ·rw[U];rcases Z with M| ⟨M,h3⟩
     ·rw[M];exact D.o y bu
     ·rw[M,<-U,h3];exact wM _ _
    ·rw[U];exact⟨Rd.nil _ _ _ _,Rd.nil _ _ _ _,Rd.nil _ _ _ _,Rd.nil _ _ _ _,ag _,ag _,ag _,ag _⟩)
  rotate_left;subst he;obtain⟨n,rfl⟩:∃n,gk=n+1:=⟨gk- 1,by have:=bc.o (by first| rfl| trivial);omega⟩;rw[qn]at HL;go_wp2_with fail;refine Yg (Qy (w.heap.size+1) a s 0 _ I.o.cur) λw3 G=>?_;have X:=aa (I.o.below G);have bK:Hid (iE Q w3 p F):=aa (dV OF.o G);have bi:Hid (lR Q w3 j C):=aa (dV OC.o G)
  clear G I OF OC ce;by_cases hz:s.size<=a
  focus
   have e2:¬(0:Int)<((s.size- a:Nat):Int):=by omega
   have HX:Hid (aF=(p,j,a,0)):=aa (by rw[<-HL.o,if_pos (.inr hz)]);have bb:Hid ((0:Int)≠0\/s.size<=a):=aa (.inr hz);clear hz;have aL:Hid ((0:Int)≠0\/s.size<=a):=aa bb.o;have ab:li v k s=(p,j,a,(0:Int)):=by unfold li;rw[a3.o];exact aN.o.trans HX.o
   have O:=X.o.pk;have D:Hid (∀y,Mods (two (w.heap.size+1) w.heap.size) w3 y->PkIn y y.heap.size {aP k V 0 l with filters:=p,codes:=j} {hs0 with props:=⟨A,q⟩,filters:=F,codes:=C}):=aa (λy hy=>X.o.stay bK.o bi.o hy);have a2:Hid (∀b o,({hs0 with props:=⟨A,q⟩,filters:=F,codes:=C}:Hs).codes.a=some ⟨b,o,none⟩->w.heap.size<=b):=aa (λb o e=>aC X.o.size.1 (cX bi.o b (by rw[show C.a=some ⟨b,o,none⟩from e];rfl)).1);obtain⟨P,hP⟩:∃P:Pk,({aP k V 0 l with filters:=p,codes:=j}:Pk)=P:=⟨_,rfl⟩;obtain⟨H,hH⟩:∃H:Hs,({hs0 with props:=⟨A,q⟩,filters:=F,codes:=C}:Hs)=H:=⟨_,rfl⟩;have Y:Hid (jj v k s=P):=aa (by unfold jj;rw[ab,a3.o,bH.o,<-hP,HM.o];rfl);rw[hP,hH]at O D;rw[hH]at a2;have aA:=aa O;have bh:Hid (PkOk P):=aa (by rw[<-Y.o];exact lU (by have:=g.o;omega));have a4:Hid (sbR v k s=Qx P s a (0:Int) (sbE v P)):=aa (by
    unfold sbR;rw[Fl (by rw[HK.o];decide),ab,Y.o];simp only;unfold Qx QE;rw[Fl (show ¬((0:Int)=0/\a<s.size)from λy=>by rcases aL.o with h| h;exact h y.1;omega)];by_cases J:((0:Int):Int)=0
    ·rw[Fl (λx=>x J),if_pos J]
    ·rw[if_pos J,Fl J,if_pos J])
   have t:=cf (O.drewN 1);clear ab hP hH O;go_wp2_with fail;refine je (λw'=>(kZ (.pointer (some ⟨gp,0,none⟩))).run prog w'= .ok (pkV P H) w') [5] (by kernel_rfl) ?_;refine Yi 0 [5] rfl t ?_;refine Yi 1 [5] rfl t ?_;refine Yi 2 [4,5] rfl t ?_;refine Yi 3 [4,5] rfl t ?_;refine Up 4 rfl (λK i=>?_);go_simp;go_at_call 126;refine Yg (Kh v P H _ (D.o _ ((Mods.refl _).drewN 1)) bh.o) λz1 G=>?_;have L:=aa ((X.o.drewN 1).below G);have az:Hid (Mods (two (w.heap.size+1) w.heap.size) w3 z1):=aa (((Mods.refl _).drewN 1).trans (qk G));have KP:=aa ((aA.o.drewN 1).below G (aA.o.drewN 1).lt);clear G t;have t:=cf KP.o;go_simp;refine i.out _ _ (λ_=>t) ?_;clear i K;refine Up 5 rfl (λK i=>?_);go_simp;go_at_call 115;refine(Rm (w.heap.size+1) a s (0:Int) (sbE v P) P H _ L.o.cur (λy B=>D.o y (az.o.trans (B.mono (λ_ _ h=>.inl h))))).mono ?_;rintro e' z2 ⟨kk,Z,rfl,hi,B⟩;go_simp;refine i.out _ _ (λhn=>absurd (hn 5 (by simp)) (by decide)) (mc (d:=5) (by simp) _ _ _ _ (by kernel_rfl) ?_);clear i K t;have aE:Hid ((Qx P s a (0:Int) (sbE v P)).1=P\/(Qx P s a (0:Int) (sbE v P)).1=pk0):=aa (by unfold Qx;split;exact .inr rfl;exact .inl rfl);obtain⟨R,hR⟩:∃R,Qx P s a (0:Int) (sbE v P)=R:=⟨_,rfl⟩;rw[hR]at hi Z a4 aE⊢;clear hR;have bJ:Hid (∀y,z2.grownBy y (some w.heap.size)->PkIn y y.heap.size R.1 kk):=aa (λy hy=>by
    have bu:Mods (two (w.heap.size+1) w.heap.size) w3 y:=az.o.trans ((qb B (.inl rfl)).trans (qb hy (.inr rfl)));rcases aE.o with U| U
    ·rw[U];rcases Z with M| ⟨M,h3⟩
     ·rw[M];exact D.o y bu
     ·rw[M,<-U,h3];exact wM _ _
    ·rw[U];exact⟨Rd.nil _ _ _ _,Rd.nil _ _ _ _,Rd.nil _ _ _ _,Rd.nil _ _ _ _,ag _,ag _,ag _,ag _⟩)
  rotate_left;have e2:0<s.size- a:=by omega
  have W:Hid (a<s.size):=aa (by omega);clear hz;go_wp2_with fail;refine Yg (No k _) λw4 cr=>?_;subst cr;cases N:jm k
  ·have HA:=aa N;have ap:Hid (lsR v k s n (a+1) 0 p (j++[((br s a 0 1:Nat):Int)])=aF):=aa (by
    rw[<-HL.o,Fl (by have:=W.o;rintro (h| h);exact h rfl;omega),Fl (by rw[N];decide)])
   have bG:Hid (j.length<=1000000000000):=aa (by have U:=au.o (by first| rfl| trivial);have M:=W.o;have h3:=g.o;omega);have bg:Hid ((aH s a 0 1).2.1=a+1/\(aH s a 0 1).2.2=0):=aa (by
    have:aH s a 0 1=(s.extract a (a+1),a+1,0):=dZ (k:=1) W.o;rw[this];exact⟨rfl,rfl⟩)
   have hn:br s a 0 1<256:=iV s a 0;obtain⟨y,hy⟩:∃y,br s a 0 1=y:=⟨_,rfl⟩;rw[hy]at hn ap;have HY:=aa hy;have cH:IntKind.i64.wrap (y:Int)=(y:Int):=by rw[aQ];omega
   clear N HL hy hn;have g:=(X.o.pk.cell 22).trans (bS _ _);simp only at g;go_wp2_with fail;refine je (λw'=>w'.cell? ⟨gp,22,none⟩=some (.slice C.a j.length C.c)) [8] (by kernel_rfl) ?_
   replace g:w3.drew.cell? ⟨gp,22,none⟩=some (.slice C.a j.length C.c):=g
   refine Yi 0 [8] rfl g ?_;refine Yi 1 [8] rfl g ?_;refine Yi 2 [8] rfl g ?_;refine Up 3 rfl (λK i=>?_);go_simp;go_at_call 112;refine(Qz (w.heap.size+1) a s 0 1 _ (X.o.drewN 1).cur (by decide)).mono ?_;rintro e' y1 ⟨rfl,hc,B⟩;rw[bg.o.1,bg.o.2]at hc;have L:=aa ((X.o.drewN 1).turn hc (qb B rfl));have P1:Hid (lR Q y1 j C):=aa ((show lR Q (w3.drewN 1) j C from bi.o).turn (qb (S:=λz=>z=w.heap.size+1) B rfl) X.o.lt.2.2);rw[HY.o];clear hc B g;have g:=(L.o.pk.cell 22).trans (bS _ _);simp only at g;go_simp;refine i.out _ _ (λ_=>g) ?_;clear i K;refine Yi 4 [8] rfl g ?_;refine Up 5 rfl (λK i=>?_);go_simp;have J2:=aa (L.o.alloc (.cells #[.int .i64 (y:Int)] 3));have P2:=aa (jh P1.o (.cells #[.int .i64 (y:Int)] 3));clear g;have g:=(J2.o.pk.cell 22).trans (bS _ _);simp only at g;refine i.out _ _ (λ_=>g) ?_;clear i K;refine Up 6 rfl (λK i=>?_);refine mS rfl (.tmp 53) (.tmp 57) 27 rfl Q.heap.size 3 _ 1 8 underlying27 Cw rfl (by decide) (.slice C.a j.length C.c) _ _ rfl P2.o _ _ 1 1 [.int .i64 (y:Int)] rfl (Rd.lit _ _ _ rfl (ed _) rfl) (by intro u hu;simp at hu;subst hu;rfl) (by have:=bG.o;unfold maxLen;omega) (by have:=bG.o;omega) J2.o.size.2 ?_;intro v' y3 ae hg cn;obtain⟨A',c',rfl,aV,bw⟩:=jK ae;have J3:=aa (J2.o.grown hg (λq hq=>(cX P2.o q hq).1));clear aV bw g;have g:=(J3.o.pk.cell 22).trans (bS _ _);simp only at g;refine i.out _ _ (λ_=>g) ?_;clear i K;refine Yi 7 [8] rfl g ?_;have cF:=J3.o.pk.free 22;refine Up 8 rfl (λK i=>?_);go_simp;refine i.out _ _ (λhn=>absurd (hn 8 (by simp)) (by decide)) (mc (d:=8) (by simp) _ _ _ _ (by kernel_rfl) ?_);clear i K g;refine QB (by kernel_rfl) ?_ _;go_wp2
   go_roundg n
   case measure=>omega
   case rel=>
    obtain⟨ad,aK⟩:=bf.o.2 HA.o;refine⟨a+1,0,p,j++[(y:Int)],F,⟨A',c'⟩,ap.o,λJ=>(by have:=bc.o (by first| rfl| trivial);have:=W.o;omega),λJ=>?_,⟨λh=>(by rw[HA.o]at h;cases h),λ_=>⟨ad,aK⟩⟩,J3.o.put 22 _ (Aq {aP k V 0 l with filters:=p} {hs0 with props:=⟨A,q⟩,filters:=F} j (y:Int) A' c' C),?_,lR.snoc ae _ J3.o.lt.2.1⟩
    ·have U:=au.o (by first| rfl| trivial);rw[List.length_append,ad];exact⟨ag _,by simp;omega⟩
    ·rw[ad,aK];exact dD _ _ _ _
  ·have HA:=aa N;have bF:Hid (k=8\/k=10):=aa (aR N);have ap:Hid (lsR v k s n (fiR v k s a).2.1 (fiR v k s a).2.2 (p++[(fiR v k s a).1]) j=aF):=aa (by
    rw[<-HL.o,Fl (by have:=W.o;rintro (h| h);exact h rfl;omega),if_pos N])
   have aZ:Hid ((fiR v k s a).2.2=0->a<(fiR v k s a).2.1/\(fiR v k s a).2.1<=s.size):=aa (λh=>by have M:=vA (v:=v) bF.o (pf W.o) h;exact⟨M.1,M.2.1⟩);have be:Hid (p.length<=1000000000000):=aa (by have U:=au.o (by first| rfl| trivial);have M:=W.o;have h3:=g.o;omega);clear N HL;have g:=(X.o.pk.cell 23).trans (bP _ _);simp only at g;go_wp2_with fail;refine je (λw'=>w'.cell? ⟨gp,23,none⟩=some (.slice F.a p.length F.c)) [9] (by kernel_rfl) ?_
   replace g:w3.drew.cell? ⟨gp,23,none⟩=some (.slice F.a p.length F.c):=g
   refine Yi 0 [9] rfl g ?_;refine Yi 1 [9] rfl g ?_;refine Yi 2 [9] rfl g ?_;refine Yi 3 [9] rfl g ?_;refine Yi 4 [9] rfl g ?_;refine Up 5 rfl (λK i=>?_);go_simp;go_at_call 125;refine(SJ v k (w.heap.size+1) a s _ (X.o.drewN 1).cur bF.o).mono ?_;rintro e' y1 ⟨rfl,hc,B⟩;have L:=aa ((X.o.drewN 1).turn hc B);have P1:Hid (iE Q y1 p F):=aa ((show iE Q (w3.drewN 1) p F from bK.o).turn B X.o.lt.2.2);obtain⟨fr,bM⟩:∃r,fiR v k s a=r:=⟨_,rfl⟩;rw[bM]at L ap aZ⊢;clear hc B g bM;obtain⟨f,a7,e7⟩:=fr;simp only[fiV]at L ap aZ⊢;have g:=(L.o.pk.cell 23).trans (bP _ _);simp only at g;go_simp;refine i.out _ _ (λ_=>g) ?_;clear i K;refine Up 6 rfl (λK i=>?_);go_simp;have J2:=aa (L.o.alloc (.cells #[.string f.topic,.int .i64 f.qos,.bool f.noLocal,.bool f.asPub,.int .i64 f.handling] 49));have P2:=aa (jh P1.o (.cells #[.string f.topic,.int .i64 f.qos,.bool f.noLocal,.bool f.asPub,.int .i64 f.handling] 49));clear g;have g:=(J2.o.pk.cell 23).trans (bP _ _);simp only at g;refine i.out _ _ (λ_=>g) ?_;clear i K;refine Up 7 rfl (λK i=>?_);refine mS rfl (.tmp 44) (.tmp 49) 28 rfl Q.heap.size 49 _ 5 40 underlying28 oP rfl (by decide) (.slice F.a p.length F.c) _ _ rfl P2.o _ _ 1 1 (fiC f) rfl (Bv _ f) (yG f) (by have:=be.o;unfold maxLen;omega) (by have:=be.o;omega) J2.o.size.2 ?_;intro v' y3 ae hg cn;obtain⟨A',c',rfl,aV,bw⟩:=jK ae;have J3:=aa (J2.o.grown hg (λq hq=>(cX P2.o q hq).1));clear aV bw g;have g:=(J3.o.pk.cell 23).trans (bP _ _);simp only at g;refine i.out _ _ (λ_=>g) ?_;clear i K;refine Yi 8 [9] rfl g ?_;have cG:=J3.o.pk.free 23;refine Up 9 rfl (λK i=>?_);go_simp;refine i.out _ _ (λhn=>absurd (hn 9 (by simp)) (by decide)) (mc (d:=9) (by simp) _ _ _ _ (by kernel_rfl) ?_);clear i K g;refine QB (by kernel_rfl) ?_ _;go_wp2
   go_roundg n
   case measure=>omega
   case rel=>
    obtain⟨ad,aK⟩:=bf.o.1 HA.o;refine⟨a7,e7,p++[f],j,⟨A',c'⟩,C,ap.o,λJ=>(by obtain⟨b1,b2⟩:=aZ.o J;have:=bc.o (by first| rfl| trivial);have:=W.o;omega),λJ=>?_,⟨λ_=>⟨ad,aK⟩,λh=>(by rw[HA.o]at h;cases h)⟩,J3.o.put 23 _ (aal {aP k V 0 l with codes:=j} {hs0 with props:=⟨A,q⟩,codes:=C} p f A' c' F),iE.snoc ae _ J3.o.lt.2.1,?_⟩
    ·obtain⟨b1,b2⟩:=aZ.o J;have U:=au.o (by first| rfl| trivial);rw[List.length_append,ad];exact⟨by simp;omega,ag _⟩
    ·rw[ad,aK];exact dD _ _ _ _
  all_goals
   have aD:=aa (L.o.res.mods (S:=λz=>z=w.heap.size+1) (qb B rfl) L.o.ne.2.1);have ba:=aa (dw L.o.kept B L.o.kept.size L.o.base.2.2);have bT:=aW aD.o;have b8:Hid (∀b o,kk.codes.a=some ⟨b,o,none⟩->w.heap.size<=b):=aa (λb o e=>by
    rcases Z with M| ⟨M,-⟩
    ·rw[M]at e;exact a2.o b o e
    ·rw[M]at e;cases e)
   clear hi Z;refine Yj 6 rfl ?_;refine Yj 7 rfl ?_;refine Uq 8 rfl (λK i=>?_);go_simp;refine i.out _ _ ?_;clear i K;refine Uq 9 rfl (λK i=>?_);go_simp;refine i.out _ _ ?_;clear i K;refine QB (by kernel_rfl) ?_ _;go_wp2;refine abZ (aI rfl _ rfl (cO aD.o _ _)) rfl ?_;rw[a4.o];exact⟨kk,rfl,bJ.o _ (cJ _ _ _ _),YQ ba.o ba.o.size (ac _) _ _,b8.o⟩
theorem acb(v:Int)(x:Hdr)(s:abO)(w:abP)(hs:s.size<=1000000000000):
  Calls prog 49 #[.int .i64 v,Cx x,.string s] w (lQ (chR v x s) w):=by
 obtain⟨k,f,n⟩:=x;have u:=aa hs;have l:Hid (chR v ⟨k,f,n⟩ s=if k<=2 then iB v k s else if k=3 then km v f s else if k<=7 then iW v k s else if k<=11 then sbR v k s else gX v k s):=aa rfl;have j:=aa (((aq w.heap.size w).alloc (ac _) (.cells #[.int .i64 k,.int .i64 f,.int .i64 n] 61)).alloc (by simp) (.cells (pkC pk0 hs0) PkT));have F:=aa ((Bk.fresh w 61 #[.int .i64 k,.int .i64 f,.int .i64 n]).alloc (.cells (pkC pk0 hs0) PkT));have h:=aa (Bk.fresh (w.alloc (.cells #[.int .i64 k,.int .i64 f,.int .i64 n] 61)) PkT (pkC pk0 hs0));have r:=F.o.cell 0;have t:=F.o.cell 1
 simp only[ay,aE,aB]at r t;have C:(w.alloc (.cells #[.int .i64 k,.int .i64 f,.int .i64 n] 61)).heap.size=w.heap.size+1:=by simp
 rw[C]at h;have I:Hid (w.heap.size<=w.heap.size+1):=aa (by omega);clear hs C;show Calls _ _ #[.int .i64 v,.agg #[.int .i64 k,.int .i64 f,.int .i64 n],.string s] _ _;by_cases z:k<=2
 focus
  have y:Hid (chR v ⟨k,f,n⟩ s=iB v k s):=aa (by rw[l.o,if_pos (by omega)]);have L:k<=2:=by omega
  clear l z;go_enter func49,ntmps49;go_wp2_with fail;refine(Sl v k s _ (by have:=u.o;omega)).mono ?_;rintro e B b;obtain⟨g,rfl,d,a,c⟩:=b.plain (xy _ _ _);have q:=aa c;have m:=aa (Yf j.o a);have o:=aa d;have i:=aa (Yh h.o a);clear r t;have p:=aW i.o (iB v k s).1 g;clear d a c b;generalize iB v k s=R at*
 rotate_left;by_cases A:k=3
 focus
  have y:Hid (chR v ⟨k,f,n⟩ s=km v f s):=aa (by rw[l.o,Fl (by omega),if_pos (by omega)]);have D:2<k:=by omega
  have M:(k==3)=true:=aK.2 (by omega);clear l z A;go_enter func49,ntmps49;go_wp2_with fail;refine(aca v f s _ (by have:=u.o;omega)).mono ?_;rintro e B b;obtain⟨g,rfl,d,a,c⟩:=b.plain (wJ _ _ _);have q:=aa c;have m:=aa (Yf j.o a);have o:=aa d;have i:=aa (Yh h.o a);clear r t;have p:=aW i.o (km v f s).1 g;clear d a c b;generalize km v f s=R at*
 rotate_left;by_cases E:k<=7
 focus
  have y:Hid (chR v ⟨k,f,n⟩ s=iW v k s):=aa (by rw[l.o,Fl (by omega),Fl (by omega),if_pos (by omega)]);have D:2<k:=by omega
  have f1:(k==3)=false:=ar.2 (by omega);have N:k<=7:=by omega
  clear l z A E;go_enter func49,ntmps49;go_wp2_with fail;refine(zu v k s _ (by have:=u.o;omega)).mono ?_;rintro e B b;obtain⟨g,rfl,d,a,c⟩:=b.plain (xJ _ _ _);have q:=aa c;have m:=aa (Yf j.o a);have o:=aa d;have i:=aa (Yh h.o a);clear r t;have p:=aW i.o (iW v k s).1 g;clear d a c b;generalize iW v k s=R at*
 rotate_left;by_cases H:k<=11
 focus
  have y:Hid (chR v ⟨k,f,n⟩ s=sbR v k s):=aa (by rw[l.o,Fl (by omega),Fl (by omega),Fl (by omega),if_pos (by omega)]);have D:2<k:=by omega
  have f1:(k==3)=false:=ar.2 (by omega);have J:7<k:=by omega
  have O:k<=11:=by omega
  clear l z A E H;go_enter func49,ntmps49;go_wp2_with fail;refine(abD v k s _ u.o).mono ?_;rintro e B b;obtain⟨g,rfl,d,a,c⟩:=b.plain;have q:=aa c;have m:=aa (Yf j.o a);have o:=aa d;have i:=aa (Yh h.o a);clear r t;have p:=aW i.o (sbR v k s).1 g;clear d a c b;generalize sbR v k s=R at*
 rotate_left;have y:Hid (chR v ⟨k,f,n⟩ s=gX v k s):=aa (by rw[l.o,Fl (by omega),Fl (by omega),Fl (by omega),Fl (by omega)]);have D:2<k:=by omega
 have f1:(k==3)=false:=ar.2 (by omega);have J:7<k:=by omega
 have K:11<k:=by omega
 clear l z A E H;go_enter func49,ntmps49;go_wp2_with fail;refine(RH v k s _ (by have:=u.o;omega)).mono ?_;rintro e B b;obtain⟨g,rfl,d,a,c⟩:=b.plain (xw _ _ _);have q:=aa c;have m:=aa (Yf j.o a);have o:=aa d;have i:=aa (Yh h.o a);clear r t;have p:=aW i.o (gX v k s).1 g;clear d a c b;generalize gX v k s=R at*
 all_goals
  go_wp2;refine abZ (aI rfl _ rfl (cO i.o R.1 g)) rfl ?_;rw[y.o];have G:=YQ m.o m.o.size I.o R.1 g;exact⟨g,rfl,o.o.put i.o (cJ _ _ _ _) q.o (by simp),G,q.o.mono (by simp;omega)⟩
attribute [local go_sem ↓] xS
attribute [local go_sem] um
def Tz(y:abP)(R:Pk×Int)(z pz:Value)(wx:abP):Prop:=∃hh g,z= .int .i64 R.2/\pz= .pointer (some ⟨g,0,none⟩)/\y.heap.size<=g/\Bk wx g PkT (pkC R.1 hh)/\PkIn wx wx.heap.size R.1 hh/\abQ y wx/\ja y R.1 hh
theorem Rt{w3:abP}{R:Pk×Int}{hh:Hs}(hi:PkIn w3 w3.heap.size R.1 hh)(hb:Below (y.alloc (.cells (pkC pk0 hs0) PkT)).drew.heap.size (y.alloc (.cells (pkC pk0 hs0) PkT)).drew w3)(hf:ja (y.alloc (.cells (pkC pk0 hs0) PkT)).drew R.1 hh):
  (zc (.pointer (some ⟨y.heap.size,0,none⟩)) (pkV R.1 hh)).run prog w3= .ok () (dE w3 y.heap.size R.1 hh)/\Tz y R (.int .i64 R.2) (.pointer (some ⟨y.heap.size,0,none⟩)) (dE w3 y.heap.size R.1 hh):=by
 have b:Bk (y.alloc (.cells (pkC pk0 hs0) PkT)).drew y.heap.size PkT (pkC pk0 hs0):=(Bk.fresh y PkT (pkC pk0 hs0)).drewN 1;have c:=Yh b hb;have a:abQ y (y.alloc (.cells (pkC pk0 hs0) PkT)).drew:=aV ((aq y.heap.size y).alloc (ac _) (.cells (pkC pk0 hs0) PkT)) 1;exact⟨aW c R.1 hh,hh,y.heap.size,rfl,rfl,ac _,cO c R.1 hh,hi.put c (cJ _ _ _ _) hf b.lt,YQ (Yf a hb) (aC a.size hb.size) (ac _) R.1 hh,hf.mono a.size⟩
theorem Yy{w3:abP}{R:Pk×Int}{hh:Hs}(hi:PkIn w3 w3.heap.size R.1 hh)(hb:Below y.drew.heap.size y.drew w3)(hf:ja y.drew R.1 hh):
  Tz y R (.int .i64 R.2) (.pointer (some ⟨w3.heap.size,0,none⟩)) (w3.alloc (.cells (pkC R.1 hh) PkT)):=
 ⟨hh,w3.heap.size,rfl,rfl,hb.size,Bk.fresh _ _ _,hi.next ((aq _ _).alloc (ac _) _),((aV (aq y.heap.size y) 1).trans hb).alloc hb.size _,hf⟩
theorem Sf(v:Int)(s:abO)(w:abP)(hs:s.size<=1000000000000):Calls prog 32 #[.int .i64 v,.string s] w (tM (mqR v s) w):=by
 have J:Hid (mqR v s=if(hdR v s).2.2≠0 then(pk0,0,(hdR v s).2.2)
  else if s.size<(hdR v s).2.1+(hdR v s).1.n then(pk0,0,3)
  else if(chR v (hdR v s).1 (s.extract (hdR v s).2.1 ((hdR v s).2.1+(hdR v s).1.n))).2=0 then((chR v (hdR v s).1 (s.extract (hdR v s).2.1 ((hdR v s).2.1+(hdR v s).1.n))).1,(hdR v s).2.1+(hdR v s).1.n,0)
  else(pk0,0,if(chR v (hdR v s).1 (s.extract (hdR v s).2.1 ((hdR v s).2.1+(hdR v s).1.n))).2=3 then 5 else(chR v (hdR v s).1 (s.extract (hdR v s).2.1 ((hdR v s).2.1+(hdR v s).1.n))).2)):=aa rfl
 have HS:=aa hs;have HB:=aa ((aq w.heap.size w).alloc (ac _) (.cells (pkC pk0 hs0) PkT));have HK:=aa (Bk.fresh w PkT (pkC pk0 hs0));have t:=aa (λW=>Q8 v s W hs);have o:Hid ((hdR v s).2.2=0->(hdR v s).1.n<=268435455/\(hdR v s).2.1<=s.size):=aa (λh0=>by
  obtain⟨b1,b2,b3,b4,b5⟩:=kw (v:=v) (s:=s) (h:=(hdR v s).1) (a:=(hdR v s).2.1) (by rw[<-h0]);exact⟨b2,b5⟩)
 clear hs;obtain⟨⟨⟨k,f,n⟩,a,x⟩,hr⟩:∃r,hdR v s=r:=⟨_,rfl⟩;rw[hr]at J t o;simp only[Cx]at J t o;clear hr;go_enter func32,ntmps32;go_wp2_with fail;refine Yg (t.o _) λw1 hb=>?_;have H:=aa (Yf HB.o hb);have M:=aa (Yh HK.o hb);clear hb t HB HK;obtain⟨y,hy⟩:∃y,w1.alloc (.cells #[.int .i64 k,.int .i64 f,.int .i64 n] 61)=y:=⟨_,rfl⟩;have j:Hid (abQ w y):=aa (by rw[<-hy];exact H.o.alloc H.o.size _);have b:Hid (Bk y w.heap.size PkT (pkC pk0 hs0)):=aa (by rw[<-hy];exact M.o.alloc _);obtain⟨C,X⟩:∃C,w1.heap.size=C:=⟨_,rfl⟩;have m:Hid (Bk y C 61 #[.int .i64 k,.int .i64 f,.int .i64 n]):=aa (by rw[<-hy,<-X];exact Bk.fresh w1 _ _);have aG:Hid (w.heap.size<C):=aa (by rw[<-X];exact M.o.lt);go_upto_region 2 with fail
 clear hy X H M;clear w1;have Z:=aW b.o pk0 hs0;have I:Hid (abQ w (dE y w.heap.size pk0 hs0)):=aa (YQ j.o j.o.size (ac _) pk0 hs0);have N:=aa (cO b.o pk0 hs0);by_cases G:x=0;rotate_left
 ·have d:Hid (mqR v s=(pk0,0,x)):=aa (by rw[J.o,if_pos G]);have e0:(x !=0)=true:=aA.2 G;clear G;go_wp2;refine abZ (eZ rfl _ rfl N.o) rfl ?_;exact gR d.o I.o
 obtain⟨b2,b3⟩:=o.o G;have K:Hid (mqR v s=if s.size<a+n then(pk0,0,3)else if(chR v ⟨k,f,n⟩ (s.extract a (a+n))).2=0 then((chR v ⟨k,f,n⟩ (s.extract a (a+n))).1,a+n,0)
  else(pk0,0,if(chR v ⟨k,f,n⟩ (s.extract a (a+n))).2=3 then 5 else(chR v ⟨k,f,n⟩ (s.extract a (a+n))).2)):=aa (by rw[J.o,Fl (λz=>z G)])
 subst G;have HN:=aa b2;have HA:=aa b3
 have ba:=HS.o;have c0:=m.o.cell 0;have c1:=m.o.cell 1;have c2:=m.o.cell 2
 simp only[ay,aE,aB]at c0 c1 c2;clear J o;by_cases B:s.size<a+n
 ·have d:Hid (mqR v s=(pk0,0,3)):=aa (by rw[K.o,if_pos B]);have d1:(s.size:Int) - (a:Int)<(n:Int):=by omega
  have d2: -9223372036854775808<=(s.size:Int) - (a:Int):=by omega
  have d3:(s.size:Int) - (a:Int)<=9223372036854775807:=by omega
  clear B;go_wp2;refine abZ (eZ rfl _ rfl N.o) rfl ?_;exact gR d.o I.o
 have c:Hid (mqR v s=if(chR v ⟨k,f,n⟩ (s.extract a (a+n))).2=0 then((chR v ⟨k,f,n⟩ (s.extract a (a+n))).1,a+n,0)
  else(pk0,0,if(chR v ⟨k,f,n⟩ (s.extract a (a+n))).2=3 then 5 else(chR v ⟨k,f,n⟩ (s.extract a (a+n))).2)):=aa (by rw[K.o,Fl B])
 have d1:(n:Int)<=(s.size:Int) - (a:Int):=by omega
 have L:Hid (a+n<=s.size):=aa (by omega);have d2: -9223372036854775808<=(s.size:Int) - (a:Int):=by omega
 have d3:(s.size:Int) - (a:Int)<=9223372036854775807:=by omega
 have a9:wrap64 ((s.size:Int) - (a:Int))=(s.size:Int) - (a:Int):=by unfold wrap64;omega
 have aY:decide ((s.size:Int) - (a:Int)<(n:Int))=false:=ah (by omega);have v1:(0:Int)<=(a:Int):=by omega
 have v2:(a:Int)<=(a:Int)+(n:Int):=by omega
 have v3:(a:Int)+(n:Int)<=(s.size:Int):=by omega
 have v4:(a:Int)+(n:Int)<=9223372036854775807:=by omega
 clear B K;go_upto_region 6 with fail
 clear a9 aY;obtain⟨q,hq⟩:∃q,a+n=q:=⟨_,rfl⟩;have bl:IntKind.i64.wrap ((a:Int)+(n:Int))=(q:Int):=by rw[aQ];omega
 have bf:wrap64 ((a:Int)+(n:Int))=(q:Int):=by unfold wrap64;omega
 rw[hq]at c L;clear v2 v3 v4;have v2:(a:Int)<=(q:Int):=by omega
 have v3:(q:Int)<=(s.size:Int):=by have:=L.o;omega
 clear hq;obtain⟨T,hT⟩:∃T,s.extract a q=T:=⟨_,rfl⟩;have ag:Hid (T.size<=1000000000000):=aa (by rw[<-hT,aj];have:=HS.o;omega);have u:=aa (λW=>acb v ⟨k,f,n⟩ T W ag.o);simp only[Cx]at u;rw[hT]at c;obtain⟨R,hR⟩:∃R,chR v ⟨k,f,n⟩ T=R:=⟨_,rfl⟩;rw[hR]at c u;clear hR Z d1 d2 d3 ba ag;have p:=aa (m.o.alloc (.cells (pkC pk0 hs0) PkT));have a0:=p.o.cell 0;have a1:=p.o.cell 1;have a2:=p.o.cell 2
 simp only[ay,aE,aB]at a0 a1 a2;go_cut [9,10] (λz pz i=>Tz y R z pz i)
 case first=>
  go_region_law ((go_simp;go_at_call 49;refine(u.o _).mono ?_;rintro e w3 ⟨l,rfl,Y,U,V⟩;(first| (have bg:=by(with_reducible exact(Rt Y U V).1)) | skip);(first| (have ap:=by(with_reducible exact(Rt Y U V).2)) | (have ap:=by(with_reducible exact Yy Y U V)))))
  all_goals
   go_wp2;go_meet
   case rel=>with_reducible exact ap
 obtain⟨l,g,rfl,rfl,hg,ao,an,A,am⟩:=hcut;obtain⟨i,bb⟩:∃x,x=wc:=⟨_,rfl⟩;subst bb;have KX:=aa ao;have IX:=aa an;have FX:=aa am
 have ak:=aa (Yh m.o A);have Q:=aa (Yh b.o A);have BX:=aa (Yf j.o A);have GX:Hid (w.heap.size<g):=aa (YU b.o.lt hg);have O:=aa b.o.lt;have a8:=aW Q.o pk0 hs0;have a5:(kZ (.pointer (some ⟨g,0,none⟩))).run prog i.drew= .ok (pkV R.1 l) i.drew:=cf (KX.o.drewN 1);have Z:(zc (.pointer (some ⟨w.heap.size,0,none⟩)) (pkV R.1 l)).run prog i.drew= .ok () (dE i.drew w.heap.size R.1 l):=aW (Q.o.drewN 1) R.1 l;have e2:i.drew.cell? ⟨C,2,none⟩=some (.int .i64 n):=(ak.o.drewN 1).cell 2;have aI:=aa ((ak.o.drewN 1).mods (S:=λz=>z=w.heap.size) (qb (cJ (i.drewN 1) w.heap.size R.1 l) rfl) (by have:=aG.o;omega));have p2:(dE i.drew w.heap.size R.1 l).cell? ⟨C,2,none⟩=some (.int .i64 n):=aI.o.cell 2;clear hg ao an A am c0 c1 c2 a0 a1 a2 u b j I N v1 v2 v3 p m b2 b3;obtain⟨P,E⟩:=R;dsimp only at c KX IX FX a8 a5 Z p2⊢;by_cases F:E=0
 ·have d:Hid (mqR v s=(P,q,0)):=aa (by rw[c.o,if_pos F]);subst F;go_wp2_with fail
  go_region_law (fail)
  all_goals
   go_wp2;refine abZ (eZ rfl _ rfl (cO (Q.o.drewN 1) P l)) rfl ?_;exact zF d.o ((IX.o.drewN 1).put (Q.o.drewN 1) (cJ _ _ _ _) FX.o O.o) (YQ (aV BX.o 1) (aC BX.o.size (ac _)) (ac _) _ _) (FX.o.mono (pf O.o))
 ·have ai:Hid (mqR v s=(pk0,0,if E=3 then 5 else E)):=aa (by rw[c.o,Fl F]);have ae:=aa (YQ BX.o BX.o.size (ac _) pk0 hs0);have af:=aa (cO Q.o pk0 hs0);by_cases D:E=3
  ·have d:Hid (mqR v s=(pk0,0,5)):=aa (by rw[ai.o,if_pos D]);have e3:(E==3)=true:=aK.2 D;clear D F;go_wp2;refine abZ (eZ rfl _ rfl af.o) rfl ?_;exact gR d.o ae.o
  ·have d:Hid (mqR v s=(pk0,0,E)):=aa (by rw[ai.o,Fl D]);have e3:(E==3)=false:=ar.2 D;have e9:(E !=0)=true:=aA.2 F;clear D F;go_wp2;refine abZ (eZ rfl _ rfl af.o) rfl ?_;exact gR d.o ae.o
theorem TF(v most:Int)(t:abO):smN v most t=if(hdR v t).2.2≠0 then(pk0,0,(hdR v t).2.2)else if most<(hdZ v t:Nat)then(pk0,0,4)else mqR v t:=by
 rw[nI];by_cases a:(hdR v t).2.2≠0
 ·rw[if_pos a,if_pos a]
 rw[Fl a,Fl a];have a:=il.1 a;by_cases c:most<(hdZ v t:Nat)
 ·rw[if_pos c,if_pos c]
 rw[Fl c,Fl c];by_cases b:t.size<hdZ v t
 ·rw[if_pos b];unfold mqR;rw[Fl (λx=>x a)];exact(if_pos b).symm
 ·rw[Fl b];have e:=ED a (z:=hdZ v t) (iX _ _);have g:(t.extract 0 (hdZ v t)).size=hdZ v t:=by rw[aj];omega
  have f:(t.extract 0 (hdZ v t)).extract (hdR v t).2.1 ((hdR v t).2.1+(hdR v t).1.n)=t.extract (hdR v t).2.1 ((hdR v t).2.1+(hdR v t).1.n):=eX (by
   rw[Ym,Ym,ix,List.drop_take,List.take_take]
   congr 1
   unfold hdZ;omega)
  unfold mqR;rw[e,g,f];unfold hdZ;have d:¬((hdR v t).2.2≠0):=λx=>x a;unfold hdZ at b;rw[Fl d,Fl (WQ _),Fl d,Fl b]
theorem Ti{r:Pk×Nat×Int}{p:Pk}{x:Int}{h:Hs}{w':abP}(hr:r=(p,n,x))(hi:PkIn w' w'.heap.size p h)(hb:abQ w w')(hf:ja w p h):tM r w (.returned (.tuple #[pkV p h,.int .i64 n,.int .i64 x])) w':=by
 subst hr;exact⟨h,rfl,hi,hb,hf⟩
theorem Ry(v mp md:Int)(s:abO)(w:abP)(hs:s.size<=1000000000000):Calls prog 22 #[.int .i64 v,.agg #[.int .i64 mp,.int .i64 md],.string s] w (tM (smN v mp s) w):=by
 have t:Hid (smN v mp s=if(hdR v s).2.2≠0 then(pk0,0,(hdR v s).2.2)else if mp<((hdR v s).2.1+(hdR v s).1.n:Nat)then(pk0,0,4)else mqR v s):=aa (TF v mp s);have HS:=aa hs;have M:=aa (((aq w.heap.size w).alloc (ac _) (.cells #[.int .i64 mp,.int .i64 md] 23)).alloc (by simp) (.cells (pkC pk0 hs0) PkT));have O:=aa ((Bk.fresh w 23 #[.int .i64 mp,.int .i64 md]).alloc (.cells (pkC pk0 hs0) PkT));have N:=Bk.fresh (w.alloc (.cells #[.int .i64 mp,.int .i64 md] 23)) PkT (pkC pk0 hs0);rw[show(w.alloc (.cells #[.int .i64 mp,.int .i64 md] 23)).heap.size=w.heap.size+1 by simp]at N;have A:=aa N;have i:=aa (λW=>Q8 v s W hs);have J:=aa (λW=>Sf v s W hs);have g:Hid ((hdR v s).2.2=0->(hdR v s).1.n<=268435455/\(hdR v s).2.1<=s.size):=aa (λh0=>by
  obtain⟨b1,b2,Y,b4,b5⟩:=kw (v:=v) (s:=s) (h:=(hdR v s).1) (a:=(hdR v s).2.1) (by rw[<-h0]);exact⟨b2,b5⟩)
 clear hs N;obtain⟨⟨⟨k,f,n⟩,a,x⟩,hr⟩:∃r,hdR v s=r:=⟨_,rfl⟩;rw[hr]at t i g;simp only[Cx]at t i g;clear hr;go_enter func22,ntmps22;go_wp2_with fail;refine Yg (i.o _) λG d=>?_;have o:=aa (Yf M.o d);have H:=aa (Yh A.o d);have I:=aa (Yh O.o d)
 clear d i M A O;obtain⟨y,D⟩:∃y,G.alloc (.cells #[.int .i64 k,.int .i64 f,.int .i64 n] 61)=y:=⟨_,rfl⟩;have b:Hid (abQ w y):=aa (by rw[<-D];exact o.o.alloc o.o.size _);have c:Hid (Bk y (w.heap.size+1) PkT (pkC pk0 hs0)):=aa (by rw[<-D];exact H.o.alloc _);have S:Hid (Bk y w.heap.size 23 #[.int .i64 mp,.int .i64 md]):=aa (by rw[<-D];exact I.o.alloc _);obtain⟨F,K⟩:∃F,G.heap.size=F:=⟨_,rfl⟩;have HH:Hid (Bk y F 61 #[.int .i64 k,.int .i64 f,.int .i64 n]):=aa (by rw[<-D,<-K];exact Bk.fresh G _ _);go_upto_region 2 with fail
 clear D K o H I;clear G;have C:=aW c.o pk0 hs0;have p:Hid (abQ w (dE y (w.heap.size+1) pk0 hs0)):=aa (YQ b.o b.o.size (by omega) pk0 hs0);have B:=aa (cO c.o pk0 hs0);by_cases m:x=0;rotate_left
 ·have l:Hid (smN v mp s=(pk0,0,x)):=aa (by rw[t.o,if_pos m]);have e0:(x !=0)=true:=aA.2 m;clear m;go_wp2;refine abZ (eZ rfl _ rfl B.o) rfl ?_;exact gR l.o p.o
 obtain⟨b2,Y⟩:=g.o m;have u:Hid (smN v mp s=if mp<(a+n:Nat)then(pk0,0,4)else mqR v s):=aa (by rw[t.o,Fl (λz=>z m)]);subst m;have ag:=HS.o;have c2:y.cell? ⟨F,2,none⟩=some (.int .i64 n):=HH.o.cell 2;have c0:y.cell? ⟨w.heap.size,0,none⟩=some (.int .i64 mp):=S.o.cell 0;have ar:wrap64 ((a:Int)+(n:Int))=((a+n:Nat):Int):=by unfold wrap64;omega
 have ap:(a:Int)+(n:Int)<=9223372036854775807:=by omega
 clear t g b2 Y ag;by_cases j:mp<(a+n:Nat)
 ·have l:Hid (smN v mp s=(pk0,0,4)):=aa (by rw[u.o,if_pos j]);have d1:mp<(a:Int)+(n:Int):=by omega
  clear j;go_wp2;refine abZ (eZ rfl _ rfl B.o) rfl ?_;exact gR l.o p.o
 have l:Hid (smN v mp s=mqR v s):=aa (by rw[u.o,Fl j]);have d1:(a:Int)+(n:Int)<=mp:=by omega
 obtain⟨⟨P,q,E⟩,Z⟩:∃R,mqR v s=R:=⟨_,rfl⟩;rw[Z]at l J;have U:=aa l.o;clear Z j C u p B;go_wp2_with fail;refine(J.o _).mono ?_;rintro e w3 ⟨hh,rfl,hi,d,hf⟩;have Q:=aa (Yh c.o d);have C:=aW Q.o P hh;have X:=aa hi;have BX:=aa (Yf b.o d);have L:=aa hf
 have V:=aa c.o.lt;have T:=aa b.o.size;clear hi d hf c0 c2;dsimp only at C X L⊢;go_wp2;refine abZ (eZ rfl _ rfl (cO Q.o P hh)) rfl ?_;exact Ti U.o (X.o.put Q.o (cJ _ _ _ _) L.o V.o) (YQ BX.o BX.o.size (by omega) _ _) (L.o.mono T.o)
theorem J9(v mp md:Int)(s:abO)(w:abP)(hs:s.size<=10000000000):Calls prog 7 #[.int .i64 v,zW mp md,.string s] w (Vs (lmS v mp md s) w):=by
 have HS:=aa hs;have Q:=aa ((aq w.heap.size w).alloc (ac _) (.cells #[.int .i64 mp,.int .i64 md] 23));have u:=aa (Bk.fresh w 23 #[.int .i64 mp,.int .i64 md]);have X:=aa (λW=>ZG mp md W);have aJ:Hid (YG v=decide (v=4\/v=5)):=aa rfl;obtain⟨t,p⟩:∃R,lmS v mp md s=R:=⟨_,rfl⟩;rw[p];have Y:=aa p;unfold zW at*;clear hs p;go_enter func7,ntmps7;go_upto_region 1 with fail
 go_cut [21] (λz j=>z= .bool (!nF v mp md)/\abQ w j/\Bk j w.heap.size 23 #[.int .i64 mp,.int .i64 md])
 case first=>
  have K:(w.alloc (.cells #[.int .i64 mp,.int .i64 md] 23)).cell? ⟨w.heap.size,0,none⟩=some (.int .i64 mp):=u.o.cell 0;have aC:(w.alloc (.cells #[.int .i64 mp,.int .i64 md] 23)).cell? ⟨w.heap.size,1,none⟩=some (.int .i64 md):=u.o.cell 1;go_wp2_with fail;refine(pS v _).mono ?_;rintro e m ⟨rfl,rfl⟩;cases V:YG v
  ·have i:Hid (nF v mp md=false):=aa (by unfold nF;rw[V];rfl);clear V;go_wp2;go_meet
   case rel=>exact⟨by rw[i.o];rfl,Q.o,u.o⟩
  have i:Hid (nF v mp md=(lmE mp md==0)):=aa (by
   unfold nF;rw[V,aL];cases hd:decide (16<=mp/\mp<=1048576/\0<=md/\md<=32)
   ·rw[aa0 hd];rfl
   ·rw[aaI hd];rfl)
  clear V;go_wp2_with fail;refine Yg (X.o _) λm hb=>?_;have b:=aa (Yf Q.o hb);have r:=aa (Yh u.o hb);clear hb K aC;go_wp2;go_meet
  case rel=>exact⟨by rw[i.o];simp[bne],b.o,r.o⟩
 obtain⟨rfl,ad,ah⟩:=hcut;obtain⟨m,a4⟩:∃x,x=wc:=⟨_,rfl⟩;subst a4;have b:=aa ad;have r:=aa ah
 clear ad ah Q u X aJ;by_cases d:nF v mp md=true;rotate_left
 ·have i:Hid (t=([],0,2)):=aa (by rw[<-Y.o];exact XQ d s);have aM:Hid (RowI w m none 0 0 []):=aa (RowI.start w m);rw[Bool.eq_false_iff.2 d];clear d;go_wp2;go_ret3;exact UE aM.o b.o (a:=0) i.o.symm (ag _)
 have h:=Yb d s;have HM:Hid (16<=mp/\mp<=1048576):=aa (by
  rw[WM,eh]at d;have:=aR d.2;omega)
 rw[Y.o]at h;have an:Hid (t=((smG v mp (s.extract 0 s.size) 0 0 []).1,(smG v mp (s.extract 0 s.size) 0 0 []).2.2.1,(smG v mp (s.extract 0 s.size) 0 0 []).2.2.2.2)):=aa (by
  rw[show s.extract 0 s.size=s from eX (by rw[Y9];rfl)];exact h)
 have aN:=aa (fun(a:Nat) W=>Ry v mp md (s.extract a s.size) W (by rw[aj];have:=HS.o;omega));rw[d];clear h d;go_wp2
 go_loopw [9,10] (λlv zv wr=>SpL m v mp s t lv zv wr) (λ_ zv _=>s.size+1- (intOf zv).toNat)
 case atStart=>exact⟨none,0,0,[],0,rfl,rfl,RowI.start m m,aq _ _,ac _,ag _,an.o⟩
 case round=>
  obtain⟨A,n,c,L,a,rfl,rfl,hI,hB,h1,h2,hF⟩:=hrel;have I0:=aa hI;have B0:=aa hB;have HN:=aa h1;have HA:=aa h2
  obtain⟨⟨P,q,E⟩,hR⟩:∃R,smN v mp (s.extract a s.size)=R:=⟨_,rfl⟩;have l:=aa (XN hF hR);have B:=aa (aN.o a);rw[hR]at B;have k:=aa (Yh r.o hB);clear hI hB h1 h2 hF hR;have b1:(0:Int)<=(a:Int):=by omega
  have b2:(a:Int)<=(s.size:Int):=by have:=HA.o;omega
  have c0:=k.o.cell 0;have c1:=k.o.cell 1;have a1:=(k.o.alloc (.cells (pkC pk0 hs0) PkT)).cell 1;have a0:=(k.o.alloc (.cells (pkC pk0 hs0) PkT)).cell 0;simp only[ay,aB,aE]at c0 a0 c1 a1;go_upto_region 5 with fail
  go_cut [11,12,13] (λpz nz ez j=>XM wr (P,q,E) pz nz ez j)
  case first=>
   go_region_law ((go_simp;go_at_call 22;refine(B.o _).mono ?_;rintro e w3 ⟨f,rfl,I,D,G⟩;(first| (have bc:=by(with_reducible exact(WR I D G).1)) | skip);(first| (have ai:=by(with_reducible exact(WR I D G).2)) | (have ai:=by(with_reducible exact Xn I D G)))))
   all_goals
    go_wp2;go_meet
    case rel=>with_reducible exact ai
  obtain⟨f,g,rfl,rfl,rfl,hg,J,af,F,ae⟩:=hcut;obtain⟨j,a5⟩:∃x,x=wc:=⟨_,rfl⟩;subst a5;have KX:=aa J;have IX:=aa af;have FX:=aa ae
  have I1:=aa (I0.o.below F);have N:=aa (Yf B0.o F);have K:(kZ (.pointer (some ⟨g,0,none⟩))).run prog j= .ok (pkV P f) j:=cf J;have C:Hid (n<=10000000000):=aa (by have:=HN.o;have:=HA.o;have:=HS.o;omega);clear hg J af F ae c0 a0 c1 a1 b1 b2 B k;dsimp only at IX FX;by_cases y:E=3
  ·have i:=aa (l.o.1 y);subst y;go_wp2;go_ret3;exact UE (I1.o.wide2 b.o.size) (Yf b.o N.o) i.o.symm C.o
  by_cases U:E=0;rotate_left
  ·have i:=aa (l.o.2.1 U y);have e3:(E==3)=false:=ar.2 y;have e0:(E !=0)=true:=aA.2 U;clear y U l;go_wp2;go_ret3;exact UE (I1.o.wide2 b.o.size) (Yf b.o N.o) i.o.symm C.o
  subst U;obtain⟨hq,Z⟩:=l.o.2.2 rfl;have S:Hid (2<=q/\a+q<=s.size):=aa (by have:=HA.o;omega);have aI:Hid (t=((smG v mp (s.extract (a+q) s.size) (a+q) (n+1) ((L++[(P,f)]).map Prod.fst)).1,(smG v mp (s.extract (a+q) s.size) (a+q) (n+1) ((L++[(P,f)]).map Prod.fst)).2.2.1,(smG v mp (s.extract (a+q) s.size) (a+q) (n+1) ((L++[(P,f)]).map Prod.fst)).2.2.2.2)):=aa (by
   rw[Ii];exact Z)
  have T:=aa (I1.o.below ((aq _ _).alloc (ac _) (.cells (pkC P f) PkT)));have O:=aa (N.o.alloc N.o.size (.cells (pkC P f) PkT));have P3:=aa (IX.o.next ((aq _ _).alloc (ac _) (.cells (pkC P f) PkT)));have R3:=aa (Fs j P f (g:=j.heap.size) rfl);have aw:wrap64 ((a:Int)+(q:Int))=((a+q:Nat):Int):=by have:=HS.o;have:=S.o;unfold wrap64;omega
  have am:Hid (n+1<=100000000000):=aa (by have:=C.o;omega);clear y l hq Z;go_wp2_with (at_builtin;refine oE rfl (.tmp 41) (.tmp 43) rfl (w0:=m) (A:=A) (n:=n) (c:=c) (L:=L) rfl T.o.row O.o.size _ [(P,f)] 1 1 _ rfl rfl (by decide) R3.o am.o ?_;intro g' c' w3 M H ab a3);have I4:=aa (T.o.more M H ab (λx hx=>by rw[gA.1 hx];exact P3.o) (λx hx g o e=>by rw[gA.1 hx];exact FX.o.apart (I0.o.row.block e).2));have B4:=aa (kz O.o H O.o.size (λg hg=>(T.o.row.own hg).1));clear M H ab a3 T O P3 R3 K;go_wp2;go_roundw
  case rel=>exact⟨_,_,_,_,_,⟨some ⟨g',0,none⟩,n+1,c',L++[(P,f)],a+q,rfl,by rw[Int.natCast_add],I4.o,B4.o,by have:=HN.o;have:=S.o;omega,S.o.2,aI.o⟩,rfl,rfl,rfl,rfl,rfl⟩
  case measure=>
   first| rw[aw] | rw[<-Int.natCast_add]
   simp only[intOf,dN];have:=S.o;omega
end
