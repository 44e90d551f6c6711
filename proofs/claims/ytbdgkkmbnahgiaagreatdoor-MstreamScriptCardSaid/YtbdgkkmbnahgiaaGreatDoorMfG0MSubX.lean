/- A part of what the laws stand on: MSubX, RhC, RhD. -/
import Derived.Test.YtbdgkkmbnahgiaaGreatDoorMfG0MSubR
import Derived.Test.YtbdgkkmbnahgiaaGreatDoorMfG0PkR
import Derived.OwnWalk
set_option maxRecDepth 10000
set_option maxHeartbeats 8000000
namespace Go.Proofs.YtbdgkkmbnahgiaaGreatDoor
open Go.RowKit Go.Proofs.Tryz
section
attribute [local go_sem ↓] bD bF bH bI bu
attribute [local go_sem] bc aD bh bg bK bJ bd aY be aO ax cI dC dB dt dj di dA dr dp dn bW co bO bZ bX cz cy cw cu ct cC cn bS bP bR
structure SRd (w wL:World) (g gp gc:Nat) (k i:Int) (l:List Pr) (A:Option Addr) (n:Nat) (t:ByteArray) (fi:List Fi) (cd:List Int) (F C:Hd) (a:Nat) (e:Int) (x:World):Prop where
 kept:Below w.heap.size w x
 res:Bk x g PkT (pkC pk0 hs0)
 pk:Bk x gp PkT (pkC {aP k i 0 l with filters:=fi,codes:=cd} {hs0 with props:=⟨A,n⟩,filters:=F,codes:=C})
 cur:IC x gc t a e
 rd:Rd x wL.heap.size 4 A l.length (prs l)
 cap:l.length<=n
 ne:g≠gp/\g≠gc/\gp≠gc
 base:w.heap.size<=g/\w.heap.size<=gp/\w.heap.size<=gc
 lt:g<wL.heap.size/\gp<wL.heap.size/\gc<wL.heap.size
 size:w.heap.size<=wL.heap.size/\wL.heap.size<=x.heap.size
section
variable {w wL x y:World} {g gp gc:Nat} {k i:Int} {l:List Pr} {A:Option Addr} {n:Nat} {fi fi':List Fi} {cd cd':List Int} {F F' C C':Hd} {t:ByteArray} {a a':Nat} {e e':Int}
theorem SRd.belowL(s:SRd w wL g gp gc k i l A n t fi cd F C a e x)(hb:Below wL.heap.size x y):SRd w wL g gp gc k i l A n t fi cd F C a e y:=
 ⟨s.kept.trans (hb.mono s.size.1),s.res.below hb s.lt.1,s.pk.below hb s.lt.2.1,⟨s.cur.1.below hb s.lt.2.2,s.cur.2⟩,s.rd.below hb,s.cap,s.ne,s.base,s.lt,s.size.1,aC s.size.2 hb.size⟩
theorem SRd.below(s:SRd w wL g gp gc k i l A n t fi cd F C a e x)(hb:Below x.heap.size x y):SRd w wL g gp gc k i l A n t fi cd F C a e y:=s.belowL (hb.mono s.size.2)
theorem SRd.drewN(s:SRd w wL g gp gc k i l A n t fi cd F C a e x)(m:Nat):SRd w wL g gp gc k i l A n t fi cd F C a e (x.drewN m):=s.below (aV (aq _ _) m)
theorem SRd.alloc(s:SRd w wL g gp gc k i l A n t fi cd F C a e x)(o:Obj):SRd w wL g gp gc k i l A n t fi cd F C a e (x.alloc o):=s.below ((aq _ _).alloc (ac _) o)
theorem SRd.grown(s:SRd w wL g gp gc k i l A n t fi cd F C a e x){r:Option Nat}(hg:x.grownBy y r)(hr:∀q,r=some q->wL.heap.size<=q):SRd w wL g gp gc k i l A n t fi cd F C a e y:=
 s.belowL ((aq wL.heap.size x).grown hg s.size.2 hr)
theorem SRd.turn(s:SRd w wL g gp gc k i l A n t fi cd F C a e x)(hc:IC y gc t a' e')(hm:Mods (fun z=>z=gc) x y):SRd w wL g gp gc k i l A n t fi cd F C a' e' y:=
 ⟨hm.below s.kept s.kept.size (fun q hq=>by rw[show q=gc from hq];exact s.base.2.2),s.res.mods hm s.ne.2.1,s.pk.mods hm s.ne.2.2,hc,
  DY s.rd s.cur.1 s.cur.1 (gw _ _ _) (gw _ _ _) (hm.mono (fun i _ hi=>.inl hi)) s.size.2,s.cap,s.ne,s.base,s.lt,s.size.1,aC s.size.2 hm.size⟩
theorem SRd.put(s:SRd w wL g gp gc k i l A n t fi cd F C a e x)(j:Nat)(u:Value)
  (hu:(pkC {aP k i 0 l with filters:=fi,codes:=cd} {hs0 with props:=⟨A,n⟩,filters:=F,codes:=C}).setIfInBounds j u=pkC {aP k i 0 l with filters:=fi',codes:=cd'} {hs0 with props:=⟨A,n⟩,filters:=F',codes:=C'}):
  SRd w wL g gp gc k i l A n t fi' cd' F' C' a e (x.setCell ⟨gp,j,none⟩ u):=by
 have hm:=cP x gp j u;exact⟨dw s.kept hm s.kept.size s.base.2.1,s.res.other (by simpa using s.ne.1) _,s.pk.upd j u hu,⟨s.cur.1.other (by simpa using s.ne.2.2.symm) _,s.cur.2⟩,
  DY s.rd s.pk s.pk (dY _ _) (dY _ _) (Mods.of_grown hm (.inl rfl)) s.size.2,s.cap,s.ne,s.base,s.lt,s.size.1,aC s.size.2 hm.size⟩
end
theorem iE.turn{w x y:World}{gc:Nat}{l:List Fi}{F:Hd}(h:iE w x l F)(hm:Mods (fun z=>z=gc) x y)(hg:gc<w.heap.size):iE w y l F:=jg h hm (fun k hk e=>by have:=(cX h k hk).1;have e:k=gc:=e;omega)
theorem lR.turn{w x y:World}{gc:Nat}{l:List Int}{F:Hd}(h:lR w x l F)(hm:Mods (fun z=>z=gc) x y)(hg:gc<w.heap.size):lR w y l F:=jg h hm (fun k hk e=>by have:=(cX h k hk).1;have e:k=gc:=e;omega)
end
section
attribute [local go_sem ↓] bD bF bH bI bu
attribute [local go_sem] bc aD bh bg bK bJ bd aY be aO ax cI dC dB dt dj di dA dr dp dn bW co bO bZ bX cz cy cw cu ct cC cn bS bP bR
def TC(g:Nat)(h:Hs)(r:Pk×Int)(w:World)(e:Ending)(w':World):Prop:=∃k,(k=h\/(k=hs0/\r.1=pk0))/\e= .returned (.tuple #[pkV r.1 k,.int .i64 r.2])/\PkIn w' w'.heap.size r.1 k/\w.grownBy w' (some g)
theorem Rm(g a:Nat)(t:ByteArray)(e x:Int)(p:Pk)(h:Hs)(w:World)(hc:IC w g t a e)(hi:∀y,Mods (fun z=>z=g) w y->PkIn y y.heap.size p h):
  Calls prog 206 #[.pointer (some ⟨g,0,none⟩),pkV p h,.int .i64 x] w (TC g h (Qx p t a e x) w):=by
 have HI:=aa hi;have D0:Hid (DS w g p h t a e ((w.alloc (.cells (pkC p h) PkT)).alloc (.cells (pkC pk0 hs0) PkT))):=aa
  ⟨(Mods.refl w).alloc _ |>.alloc _,(Bk.fresh w PkT (pkC p h)).alloc _,by
    have:=Bk.fresh (w.alloc (.cells (pkC p h) PkT)) PkT (pkC pk0 hs0);rwa[show(w.alloc (.cells (pkC p h) PkT)).heap.size=w.heap.size+1 by simp]at this,⟨(hc.1.alloc _).alloc _,hc.2⟩,hc.lt⟩
 have HR:Hid (Qx p t a e x=if QE t a e x≠0 then(pk0,QE t a e x)else(p,0)):=aa rfl;have HDE:Hid (QE t a e x=if(if e=0/\a<t.size then 5 else e)=0 then x else(if e=0/\a<t.size then 5 else e)):=aa rfl;clear hc hi;obtain⟨⟨c0,c1,c2⟩,-⟩:=D0.o.cur.cells;go_enter func206,ntmps206
 by_cases he:e=0
 rotate_left
 ·have e0:(e==0)=false:=ar.2 he;have HE1:Hid (QE t a e x=if e=0 then x else e):=aa (by rw[HDE.o,ae (show ¬(e=0/\a<t.size)from fun y=>he y.1)]);clear he;clear c0 c1 c2;obtain⟨⟨c0,c1,c2⟩,-⟩:=D0.o.cur.cells
  go_wp2_with fail
  refine(Qv g a t _ x _ D0.o.cur).mono ?_;rintro e' x2 ⟨rfl,hcu,hm⟩;have D2:=aa (D0.o.turn hcu hm);clear hcu hm c0 c1 c2
  rw[<-HE1.o]at D2;obtain⟨E2,hE2⟩:∃E2,QE t a e x=E2:=⟨_,rfl⟩;rw[hE2]at D2 HR;clear HE1 HDE hE2;obtain⟨⟨c0,c1,c2⟩,-⟩:=D2.o.cur.cells;have hst:=aW D2.o.res
  by_cases hz:E2=0
  ·subst hz;have HX:Hid (Qx p t a e x=(p,0)):=aa (by rw[HR.o,ae (fun y=>y rfl)]);have hl:=cf D2.o.pk;go_wp2;refine av (aI rfl _ rfl (cO D2.o.res _ _)) rfl ?_;rw[HX.o];exact⟨h,.inl rfl,rfl,HI.o _ (D2.o.put _ _),(D2.o.put _ _).grown⟩
  ·have HX:Hid (Qx p t a e x=(pk0,E2)):=aa (by rw[HR.o,if_pos hz]);have e9:(E2 !=0)=true:=aA.2 hz;clear hz
   go_wp2_with fail
   have hst1:(zc (.pointer (some ⟨w.heap.size+1,0,none⟩)) (pkV pk0 hs0)).run prog x2.drew= .ok () (dE x2.drew (w.heap.size+1) pk0 hs0):=aW (D2.o.res.drewN 1) pk0 hs0;have hcd:x2.drew.cell? ⟨g,2,none⟩=some (.int .i64 E2):=(D2.o.cur.1.drewN 1).cell 2;have d2':(dE x2.drew (w.heap.size+1) pk0 hs0).cell? ⟨g,2,none⟩=some (.int .i64 E2):=by
    have hbb:=(D2.o.cur.1.drewN 1).mods (S:=fun z=>z=w.heap.size+1) (Mods.of_grown (cJ (x2.drewN 1) (w.heap.size+1) pk0 hs0) rfl) (by have:=D2.o.lt;omega);exact hbb.cell 2
   have D3:Hid (DS w g p h t a E2 x2.drew):=aa ⟨D2.o.mods.drewN 1,D2.o.pk.drewN 1,D2.o.res.drewN 1,D2.o.cur.drewN 1,D2.o.lt⟩;clear hst
   go_region_law (fail)
   all_goals
    go_wp2;refine av (aI rfl _ rfl (cO D3.o.res _ _)) rfl ?_;rw[HX.o];exact⟨hs0,.inr ⟨rfl,rfl⟩,rfl,⟨Rd.nil _ _ _ _,Rd.nil _ _ _ _,Rd.nil _ _ _ _,Rd.nil _ _ _ _,ag _,ag _,ag _,ag _⟩,(D3.o.put _ _).grown⟩
 subst he
 by_cases hlt:a<t.size
 ·have hp0:0<t.size- a:=by omega
  have HE1:Hid (QE t a 0 x=if(5:Int)=0 then x else 5):=aa (by rw[HDE.o,if_pos (show(0:Int)=0/\a<t.size from⟨rfl,hlt⟩)]);clear hlt
  go_wp2_with fail
  refine(Qy g a t 0 _ D0.o.cur).mono ?_;rintro e' x0 ⟨rfl,hb⟩;have D1:=aa (D0.o.below hb);clear hb c0 c1 c2
  obtain⟨⟨c0,c1,c2⟩,-⟩:=D1.o.cur.cells
  go_wp2_with fail
  refine(Qv g a t 0 5 _ D1.o.cur).mono ?_;rintro e' x1 ⟨rfl,hcu,hm⟩;rw[if_pos rfl]at hcu;have DA:=aa (D1.o.turn hcu hm);clear hcu hm
  clear c0 c1 c2;obtain⟨⟨c0,c1,c2⟩,-⟩:=DA.o.cur.cells
  go_wp2_with fail
  refine(Qv g a t _ x _ DA.o.cur).mono ?_;rintro e' x2 ⟨rfl,hcu,hm⟩;have D2:=aa (DA.o.turn hcu hm);clear hcu hm c0 c1 c2
  rw[<-HE1.o]at D2;obtain⟨E2,hE2⟩:∃E2,QE t a 0 x=E2:=⟨_,rfl⟩;rw[hE2]at D2 HR;clear HE1 HDE hE2;obtain⟨⟨c0,c1,c2⟩,-⟩:=D2.o.cur.cells;have hst:=aW D2.o.res
  by_cases hz:E2=0
  ·subst hz;have HX:Hid (Qx p t a 0 x=(p,0)):=aa (by rw[HR.o,ae (fun y=>y rfl)]);have hl:=cf D2.o.pk;go_wp2;refine av (aI rfl _ rfl (cO D2.o.res _ _)) rfl ?_;rw[HX.o];exact⟨h,.inl rfl,rfl,HI.o _ (D2.o.put _ _),(D2.o.put _ _).grown⟩
  ·have HX:Hid (Qx p t a 0 x=(pk0,E2)):=aa (by rw[HR.o,if_pos hz]);have e9:(E2 !=0)=true:=aA.2 hz;clear hz
   go_wp2_with fail
   have hst1:(zc (.pointer (some ⟨w.heap.size+1,0,none⟩)) (pkV pk0 hs0)).run prog x2.drew= .ok () (dE x2.drew (w.heap.size+1) pk0 hs0):=aW (D2.o.res.drewN 1) pk0 hs0;have hcd:x2.drew.cell? ⟨g,2,none⟩=some (.int .i64 E2):=(D2.o.cur.1.drewN 1).cell 2;have d2':(dE x2.drew (w.heap.size+1) pk0 hs0).cell? ⟨g,2,none⟩=some (.int .i64 E2):=by
    have hbb:=(D2.o.cur.1.drewN 1).mods (S:=fun z=>z=w.heap.size+1) (Mods.of_grown (cJ (x2.drewN 1) (w.heap.size+1) pk0 hs0) rfl) (by have:=D2.o.lt;omega);exact hbb.cell 2
   have D3:Hid (DS w g p h t a E2 x2.drew):=aa ⟨D2.o.mods.drewN 1,D2.o.pk.drewN 1,D2.o.res.drewN 1,D2.o.cur.drewN 1,D2.o.lt⟩;clear hst
   go_region_law (fail)
   all_goals
    go_wp2;refine av (aI rfl _ rfl (cO D3.o.res _ _)) rfl ?_;rw[HX.o];exact⟨hs0,.inr ⟨rfl,rfl⟩,rfl,⟨Rd.nil _ _ _ _,Rd.nil _ _ _ _,Rd.nil _ _ _ _,Rd.nil _ _ _ _,ag _,ag _,ag _,ag _⟩,(D3.o.put _ _).grown⟩
 ·have hp0:¬0<t.size- a:=by omega
  have HE1:Hid (QE t a 0 x=x):=aa (by rw[HDE.o,ae (show ¬((0:Int)=0/\a<t.size)from fun y=>hlt y.2),if_pos rfl]);clear hlt
  go_wp2_with fail
  refine(Qy g a t 0 _ D0.o.cur).mono ?_;rintro e' x0 ⟨rfl,hb⟩;have DA:=aa (D0.o.below hb);clear hb
  clear c0 c1 c2;obtain⟨⟨c0,c1,c2⟩,-⟩:=DA.o.cur.cells
  go_wp2_with fail
  refine(Qv g a t _ x _ DA.o.cur).mono ?_;rintro e' x2 ⟨rfl,hcu,hm⟩;rw[if_pos rfl]at hcu;have D2:=aa (DA.o.turn hcu hm);clear hcu hm c0 c1 c2
  rw[<-HE1.o]at D2;obtain⟨E2,hE2⟩:∃E2,QE t a 0 x=E2:=⟨_,rfl⟩;rw[hE2]at D2 HR;clear HE1 HDE hE2;obtain⟨⟨c0,c1,c2⟩,-⟩:=D2.o.cur.cells;have hst:=aW D2.o.res
  by_cases hz:E2=0
  ·subst hz;have HX:Hid (Qx p t a 0 x=(p,0)):=aa (by rw[HR.o,ae (fun y=>y rfl)]);have hl:=cf D2.o.pk;go_wp2;refine av (aI rfl _ rfl (cO D2.o.res _ _)) rfl ?_;rw[HX.o];exact⟨h,.inl rfl,rfl,HI.o _ (D2.o.put _ _),(D2.o.put _ _).grown⟩
  ·have HX:Hid (Qx p t a 0 x=(pk0,E2)):=aa (by rw[HR.o,if_pos hz]);have e9:(E2 !=0)=true:=aA.2 hz;clear hz
   go_wp2_with fail
   have hst1:(zc (.pointer (some ⟨w.heap.size+1,0,none⟩)) (pkV pk0 hs0)).run prog x2.drew= .ok () (dE x2.drew (w.heap.size+1) pk0 hs0):=aW (D2.o.res.drewN 1) pk0 hs0;have hcd:x2.drew.cell? ⟨g,2,none⟩=some (.int .i64 E2):=(D2.o.cur.1.drewN 1).cell 2;have d2':(dE x2.drew (w.heap.size+1) pk0 hs0).cell? ⟨g,2,none⟩=some (.int .i64 E2):=by
    have hbb:=(D2.o.cur.1.drewN 1).mods (S:=fun z=>z=w.heap.size+1) (Mods.of_grown (cJ (x2.drewN 1) (w.heap.size+1) pk0 hs0) rfl) (by have:=D2.o.lt;omega);exact hbb.cell 2
   have D3:Hid (DS w g p h t a E2 x2.drew):=aa ⟨D2.o.mods.drewN 1,D2.o.pk.drewN 1,D2.o.res.drewN 1,D2.o.cur.drewN 1,D2.o.lt⟩;clear hst
   go_region_law (fail)
   all_goals
    go_wp2;refine av (aI rfl _ rfl (cO D3.o.res _ _)) rfl ?_;rw[HX.o];exact⟨hs0,.inr ⟨rfl,rfl⟩,rfl,⟨Rd.nil _ _ _ _,Rd.nil _ _ _ _,Rd.nil _ _ _ _,Rd.nil _ _ _ _,ag _,ag _,ag _,ag _⟩,(D3.o.put _ _).grown⟩
end
section
attribute [local go_sem ↓] bD bF bH bI bu
attribute [local go_sem] bc aD bh bg bK bJ bd aY be aO ax cI dC dB dt dj di dA dr dp dn bW co bO bZ bX cz cy cw cu ct cC cn bS bP bR
section
variable {w wL x:World} {g gp gc:Nat} {k i:Int} {t:ByteArray} {a:Nat} {e:Int}
theorem SRd.props{l:List Pr}{A:Option Addr}{n:Nat}(s:SRd w wL g gp gc k i [] none 0 t [] [] hd0 hd0 a e x)(hr:Rd x x.heap.size 4 A l.length (prs l))(hc:l.length<=n):
  SRd w (x.setCell ⟨gp,24,none⟩ (.slice A l.length n)) g gp gc k i l A n t [] [] hd0 hd0 a e (x.setCell ⟨gp,24,none⟩ (.slice A l.length n)):=by
 have hm:=cP x gp 24 (.slice A l.length n);have h1:Bk (x.setCell ⟨gp,24,none⟩ (.slice A l.length n)) g PkT (pkC pk0 hs0):=s.res.other (by simpa using s.ne.1) _;have h2:Bk (x.setCell ⟨gp,24,none⟩ (.slice A l.length n)) gp PkT (pkC {aP k i 0 l with filters:=[],codes:=[]} {hs0 with props:=⟨A,n⟩,filters:=hd0,codes:=hd0}):=s.pk.upd 24 _ rfl;have h3:IC (x.setCell ⟨gp,24,none⟩ (.slice A l.length n)) gc t a e:=⟨s.cur.1.other (by simpa using s.ne.2.2.symm) _,s.cur.2⟩;have h4:=dw s.kept hm s.kept.size s.base.2.1;exact⟨h4,h1,h2,h3,(DY hr s.pk s.pk (dY _ _) (dY _ _) (Mods.of_grown hm (.inl rfl)) (ac _)).wider hm.size,hc,s.ne,s.base,⟨h1.lt,h2.lt,h3.lt⟩,h4.size,ac _⟩
end
theorem SRd.stay{w wL x y:World}{g gp gc:Nat}{k i:Int}{l:List Pr}{A:Option Addr}{n:Nat}{fi:List Fi}{cd:List Int}{F C:Hd}{t:ByteArray}{a:Nat}{e:Int}(s:SRd w wL g gp gc k i l A n t fi cd F C a e x)(hF:iE wL x fi F)(hC:lR wL x cd C)(hm:Mods (two gc g) x y):
  PkIn y y.heap.size {aP k i 0 l with filters:=fi,codes:=cd} {hs0 with props:=⟨A,n⟩,filters:=F,codes:=C}:=by
 have hl:=s.lt;have hF':iE wL y fi F:=jg hF hm (fun k hk e=>by have:=(cX hF k hk).1;rcases e with e| e<;>omega);have hC':lR wL y cd C:=jg hC hm (fun k hk e=>by have:=(cX hC k hk).1;rcases e with e| e<;>omega);exact⟨Rd.nil _ _ _ _,hC'.into.1,hF'.into.1,(DY s.rd s.cur.1 s.res (gw _ _ _) (dY _ _) hm s.size.2).wider (aC s.size.2 hm.size),ag _,hC'.into.2,hF'.into.2,s.cap⟩
theorem Tv(v k:Int):ir v k=(ba v&&It k):=by
 unfold ir ba It;rw[<-Ij,<-Ij]
theorem SZ(v k:Int)(s:ByteArray)(w:World)(hs:s.size<=1000000000000):
  Calls prog 150 #[.int .i64 v,.int .i64 k,.string s] w (qT (sbR v k s) w):=by
 have HS:=aa hs;have HB0:=aa ((aq w.heap.size w).alloc (ac _) (.cells (pkC pk0 hs0) PkT));have HR0:=aa (Bk.fresh w PkT (pkC pk0 hs0));have hst:=aW HR0.o;have HKE:=aa (Tv v k);clear hs;go_enter func150,ntmps150
 go_wp2_with fail
 refine(pS v _).mono ?_;rintro e w1 ⟨rfl,rfl⟩;cases hk:ba v
 ·have HX:Hid (sbR v k s=(pk0,2)):=aa (by unfold sbR;rw[if_pos (by rw[HKE.o,hk];rfl)]);clear hk;go_wp2;refine av (aI rfl _ rfl (cO HR0.o _ _)) rfl ?_;exact kN HX.o (bT HB0.o HB0.o.size (ac _) _ _)
 go_wp2_with fail
 refine(Mn k _).mono ?_;rintro e w1 ⟨rfl,rfl⟩;cases hr:It k
 ·have HX:Hid (sbR v k s=(pk0,2)):=aa (by unfold sbR;rw[if_pos (by rw[HKE.o,hk,hr];rfl)]);clear hk hr;go_wp2;refine av (aI rfl _ rfl (cO HR0.o _ _)) rfl ?_;exact kN HX.o (bT HB0.o HB0.o.size (ac _) _ _)
 have HK:Hid (ir v k=true):=aa (by rw[HKE.o,hk,hr];rfl);have HV:Hid (v=4\/v=5):=aa (aR hk);clear hk hr hst
 go_wp2_with fail
 refine(QN s _ (by have:=HS.o;omega)).mono ?_;rintro e w1 ⟨rfl,hcu,hb⟩;have hgc:(w.alloc (.cells (pkC pk0 hs0) PkT)).heap.size=w.heap.size+1:=by simp
 have HB1:=aa (HB0.o.trans (hb.mono HB0.o.size));have HR1:=aa (HR0.o.below hb HR0.o.lt)
 rw[hgc]at hcu⊢;have HC1:=aa hcu;clear hcu hb hgc
 go_wp2_with fail
 refine(Qz (w.heap.size+1) 0 s 0 2 _ HC1.o (by decide)).mono ?_;rintro e w2 ⟨rfl,hcu,hm⟩;have HB2:=aa (dw HB1.o hm HB1.o.size (by omega));have HR2:=aa (HR1.o.mods (S:=fun z=>z=w.heap.size+1) (Mods.of_grown hm rfl) (by omega));have HC2:=aa hcu
 have HZ:=aa HC2.o.lt;have hid:=gU s 0 0 (by omega);obtain⟨m,hm2⟩:∃m,br s 0 0 2=m:=⟨_,rfl⟩;rw[hm2]at hid⊢;have HM2:=aa hm2;obtain⟨TK,hTK⟩:∃T,aH s 0 0 2=T:=⟨_,rfl⟩;have HPR:Hid (lh v k s=fv v k s TK.2.1 TK.2.2):=aa (by unfold lh;rw[hTK]);rw[hTK]at HC2;clear hcu hm hm2 hTK;obtain⟨T0,a0,e0⟩:=TK;simp only at HPR HC2;obtain⟨id,hm1⟩:∃id:Int,id=(m:Int):=⟨_,rfl⟩;have hw:IntKind.i64.wrap (m:Int)=id:=by rw[hm1,aQ];omega
 have HM:Hid (id=(m:Int)):=aa hm1;clear hid hm1;obtain⟨W0,hW0⟩:∃W0,w2.alloc (.cells (pkC (aP k id 0 []) hs0) PkT)=W0:=⟨_,rfl⟩;have I3:Hid (SRd w W0 w.heap.size w2.heap.size (w.heap.size+1) k id [] none 0 s [] [] hd0 hd0 a0 e0 W0):=aa (by
  rw[<-hW0];exact⟨HB2.o.alloc HB2.o.size _,HR2.o.alloc _,Bk.fresh _ _ _,⟨HC2.o.1.alloc _,HC2.o.2⟩,Rd.nil _ _ _ _,ac _,⟨by have:=HZ.o;omega,by omega,by have:=HZ.o;omega⟩,⟨ac _,by have:=HZ.o;omega,by omega⟩,
   ⟨(HR2.o.alloc _).lt,(Bk.fresh w2 PkT _).lt,(HC2.o.1.alloc _).lt⟩,(HB2.o.alloc HB2.o.size _).size,ac _⟩)
 go_wp2_with fail
 rw[vS,hW0];refine(QD v k (w.heap.size+1) a0 s e0 _ I3.o.cur (by have:=HS.o;omega)).mono ?_;rintro e' x1 ⟨A,q,rfl,hlc,hr,hcu,hm⟩;rw[Ro,<-HPR.o]at hlc hr hcu⊢;have I4:=aa (I3.o.turn hcu (Mods.of_grown hm rfl));obtain⟨R,hR⟩:∃R,lh v k s=R:=⟨_,rfl⟩;rw[hR]at hlc hr hcu I4⊢;have HPE:=aa hR;clear hR;obtain⟨l,a1,e1⟩:=R;simp only at hlc hr hcu I4⊢;have f24:=I4.o.pk.free 24;have p24:=(I4.o.pk.cell 24).trans (bR _ _);have I5:=aa (I4.o.props hr hlc);obtain⟨W1,hW1⟩:∃W1,x1.setCell ⟨w2.heap.size,24,none⟩ (.slice A l.length q)=W1:=⟨_,rfl⟩;rw[hW1]at I5;clear hlc hr hcu hm hw hW0 I3;generalize hgp:w2.heap.size=gp at*;go_wp2;clear hW1 hgp f24 p24 I4;obtain⟨RES,hRES⟩:∃R,lsR v k s (s.size+1) a1 e1 [] []=R:=⟨_,rfl⟩;have HRES:=aa hRES;clear hRES
 go_loopg [] (s.size+1) (fun n wr=>∃(a:Nat) (e:Int) (fi:List Fi) (cd:List Int) (F C:Hd),lsR v k s n a e fi cd=RES/\(e=0->s.size- a<n)/\(e=0->fi.length<=a/\cd.length<=a)/\((jm k=true->cd=[]/\C=hd0)/\(jm k=false->fi=[]/\F=hd0))/\
  SRd w W1 w.heap.size gp (w.heap.size+1) k id l A q s fi cd F C a e wr/\iE W1 wr fi F/\lR W1 wr cd C)
 case atStart=>exact⟨a1,e1,[],[],hd0,hd0,HRES.o,fun _=>by omega,fun _=>⟨ag _,ag _⟩,⟨fun _=>⟨rfl,rfl⟩,fun _=>⟨rfl,rfl⟩⟩,I5.o,dD _ _ _ _,dD _ _ _ _⟩
 case round=>
  obtain⟨a,e,fi,cd,F,C,hl,hfu,hlen,hnil,hI,hF,hC⟩:=hrel;have HNIL:=aa hnil;clear hnil
  have HL:=aa hl;have HFU:=aa hfu;have HLEN:=aa hlen;have I:=aa hI;have OF:=aa hF;have OC:=aa hC
  clear hl hfu hlen hI hF hC;have ce:=I.o.cur.cells.1.2.2
  by_cases he:e=0
  rotate_left
  ·have e1':(e==0)=false:=ar.2 he;have HX:Hid (RES=(fi,cd,a,e)):=aa (by rw[<-HL.o,Es he]);have HEN:Hid (e≠0\/s.size<=a):=aa (.inl he);clear he;have HEnd:Hid (e≠0\/s.size<=a):=aa HEN.o;have hls:li v k s=(fi,cd,a,e):=by unfold li;rw[HPE.o];exact HRES.o.trans HX.o
   have hpk:=I.o.pk;have HST0:Hid (∀y,Mods (two (w.heap.size+1) w.heap.size) wr y->PkIn y y.heap.size {aP k id 0 l with filters:=fi,codes:=cd} {hs0 with props:=⟨A,q⟩,filters:=F,codes:=C}):=aa (fun y hy=>I.o.stay OF.o OC.o hy);have HFC:Hid (∀b o,({hs0 with props:=⟨A,q⟩,filters:=F,codes:=C}:Hs).codes.a=some ⟨b,o,none⟩->w.heap.size<=b):=aa (fun b o e=>aC I.o.size.1 (cX OC.o b (by rw[show C.a=some ⟨b,o,none⟩from e];rfl)).1);obtain⟨P,hP⟩:∃P:Pk,({aP k id 0 l with filters:=fi,codes:=cd}:Pk)=P:=⟨_,rfl⟩;obtain⟨H,hH⟩:∃H:Hs,({hs0 with props:=⟨A,q⟩,filters:=F,codes:=C}:Hs)=H:=⟨_,rfl⟩;have HFU2:Hid (jj v k s=P):=aa (by unfold jj;rw[hls,HPE.o,HM2.o,<-hP,HM.o];rfl);rw[hP,hH]at hpk HST0;rw[hH]at HFC;have HPK:=aa hpk;have HOK:Hid (PkOk P):=aa (by rw[<-HFU2.o];exact lU (by have:=HS.o;omega));have HRR:Hid (sbR v k s=Qx P s a e (sbE v P)):=aa (by
    unfold sbR;rw[ae (by rw[HK.o];decide),hls,HFU2.o];simp only;unfold Qx QE;rw[ae (show ¬(e=0/\a<s.size)from fun y=>by rcases HEnd.o with h| h;exact h y.1;omega)]
    by_cases h0:(e:Int)=0
    ·rw[ae (fun x=>x h0),if_pos h0]
    ·rw[if_pos h0,ae h0,if_pos h0])
   have HL2:=cf (hpk.drewN 1);clear hls hP hH hpk
   go_wp2_with fail
   refine je (fun w'=>(kZ (.pointer (some ⟨gp,0,none⟩))).run prog w'= .ok (pkV P H) w') [5] (by kernel_rfl) ?_;refine Uo (i:=0) (v:=?vp_0) [5] rfl (Or.inl ⟨by rfl,?hp_0⟩) HL2 ?rp_0
   case hp_0=>intro w' hSw;(try dsimp only at hSw);go_simp;try with_reducible rfl
   refine Uo (i:=1) (v:=?vp_1) [5] rfl (Or.inl ⟨by rfl,?hp_1⟩) HL2 ?rp_1
   case hp_1=>intro w' hSw;(try dsimp only at hSw);go_simp;try with_reducible rfl
   refine Uo (i:=2) (v:=?vp_2) [4,5] rfl (Or.inl ⟨by rfl,?hp_2⟩) HL2 ?rp_2
   case hp_2=>intro w' hSw;(try dsimp only at hSw);go_simp;try with_reducible rfl
   refine Uo (i:=3) (v:=?vp_3) [4,5] rfl (Or.inl ⟨by rfl,?hp_3⟩) HL2 ?rp_3
   case hp_3=>intro w' hSw;(try dsimp only at hSw);go_simp;try with_reducible rfl
   refine Up 4 rfl (fun K hK=>?_);go_simp
   go_at_call 184
   refine(Kh v P H _ (HST0.o _ ((Mods.refl _).drewN 1)) HOK.o).mono ?_;rintro e' z1 ⟨rfl,hb⟩;have J1:=aa ((I.o.drewN 1).below hb);have HM1:Hid (Mods (two (w.heap.size+1) w.heap.size) wr z1):=aa (((Mods.refl _).drewN 1).trans (Mods.of_below hb));have KP:=aa ((HPK.o.drewN 1).below hb (HPK.o.drewN 1).lt);clear hb HL2;have HL2:=cf KP.o;go_simp;refine hK.out _ _ (fun _=>HL2) ?_;clear hK K;refine Up 5 rfl (fun K hK=>?_);go_simp
   go_at_call 206
   refine(Rm (w.heap.size+1) a s e (sbE v P) P H _ J1.o.cur (fun y hm=>HST0.o y (HM1.o.trans (hm.mono (fun _ _ h=>.inl h))))).mono ?_;rintro e' z2 ⟨kk,hkk,rfl,hi,hm⟩;go_simp;refine hK.out _ _ (fun hn=>absurd (hn 5 (by simp)) (by decide)) (mc (d:=5) (by simp) _ _ _ _ (by kernel_rfl) ?_);clear hK K HL2;have HRP:Hid ((Qx P s a e (sbE v P)).1=P\/(Qx P s a e (sbE v P)).1=pk0):=aa (by unfold Qx;split;exact .inr rfl;exact .inl rfl);obtain⟨R,hR⟩:∃R,Qx P s a e (sbE v P)=R:=⟨_,rfl⟩;rw[hR]at hi hkk HRR HRP⊢;clear hR;have HST:Hid (∀y,z2.grownBy y (some w.heap.size)->PkIn y y.heap.size R.1 kk):=aa (fun y hy=>by
    have hmm:Mods (two (w.heap.size+1) w.heap.size) wr y:=HM1.o.trans ((Mods.of_grown hm (.inl rfl)).trans (Mods.of_grown hy (.inr rfl)));rcases HRP.o with h1| h1
    ·rw[h1];rcases hkk with h2| ⟨h2,h3⟩
     ·rw[h2];exact HST0.o y hmm
     ·rw[h2,<-h1,h3];exact wM _ _
    ·rw[h1];exact⟨Rd.nil _ _ _ _,Rd.nil _ _ _ _,Rd.nil _ _ _ _,Rd.nil _ _ _ _,ag _,ag _,ag _,ag _⟩)
   have HR2:=aa (J1.o.res.mods (S:=fun z=>z=w.heap.size+1) (Mods.of_grown hm rfl) J1.o.ne.2.1);have HB2':=aa (dw J1.o.kept hm J1.o.kept.size J1.o.base.2.2);have hst:=aW HR2.o;have HFK:Hid (∀b o,kk.codes.a=some ⟨b,o,none⟩->w.heap.size<=b):=aa (fun b o e=>by
    rcases hkk with h2| ⟨h2,-⟩
    ·rw[h2]at e;exact HFC.o b o e
    ·rw[h2]at e;cases e)
   clear hi hkk;refine Qw (i:=6) (v:=?vp_6) rfl (by kernel_rfl) (by kernel_rfl) (by kernel_rfl) (fun _ _ _ h=>h) (Or.inl ⟨by rfl,?hp_6⟩) ?rp_6
   case hp_6=>intro w';go_simp;try with_reducible rfl
   refine Qw (i:=7) (v:=?vp_7) rfl (by kernel_rfl) (by kernel_rfl) (by kernel_rfl) (fun _ _ _ h=>h) (Or.inl ⟨by rfl,?hp_7⟩) ?rp_7
   case hp_7=>intro w';go_simp;try with_reducible rfl
   refine Uq 8 rfl (fun K hK=>?_);go_simp;refine hK.out _ _ ?_;clear hK K;refine Uq 9 rfl (fun K hK=>?_);go_simp;refine hK.out _ _ ?_;clear hK K;refine QB (by kernel_rfl) ?_ _;go_wp2;refine av (aI rfl _ rfl (cO HR2.o _ _)) rfl ?_;rw[HRR.o];exact⟨kk,rfl,HST.o _ (cJ _ _ _ _),bT HB2'.o HB2'.o.size (ac _) _ _,HFK.o⟩
  subst he;obtain⟨n,rfl⟩:∃n,gk=n+1:=⟨gk- 1,by have:=HFU.o (by first| rfl| trivial);omega⟩;rw[qn]at HL
  go_wp2_with fail
  refine(Qy (w.heap.size+1) a s 0 _ I.o.cur).mono ?_;rintro e' w3 ⟨rfl,hb⟩;have J0:=aa (I.o.below hb);have OF1:Hid (iE W1 w3 fi F):=aa (dV OF.o hb);have OC1:Hid (lR W1 w3 cd C):=aa (dV OC.o hb)
  clear hb I OF OC ce
  by_cases hz:s.size<=a
  ·have e2:¬(0:Int)<((s.size- a:Nat):Int):=by omega
   have HX:Hid (RES=(fi,cd,a,0)):=aa (by rw[<-HL.o,if_pos (.inr hz)]);have HEN:Hid ((0:Int)≠0\/s.size<=a):=aa (.inr hz);clear hz;have HEnd:Hid ((0:Int)≠0\/s.size<=a):=aa HEN.o;have hls:li v k s=(fi,cd,a,(0:Int)):=by unfold li;rw[HPE.o];exact HRES.o.trans HX.o
   have hpk:=J0.o.pk;have HST0:Hid (∀y,Mods (two (w.heap.size+1) w.heap.size) w3 y->PkIn y y.heap.size {aP k id 0 l with filters:=fi,codes:=cd} {hs0 with props:=⟨A,q⟩,filters:=F,codes:=C}):=aa (fun y hy=>J0.o.stay OF1.o OC1.o hy);have HFC:Hid (∀b o,({hs0 with props:=⟨A,q⟩,filters:=F,codes:=C}:Hs).codes.a=some ⟨b,o,none⟩->w.heap.size<=b):=aa (fun b o e=>aC J0.o.size.1 (cX OC1.o b (by rw[show C.a=some ⟨b,o,none⟩from e];rfl)).1);obtain⟨P,hP⟩:∃P:Pk,({aP k id 0 l with filters:=fi,codes:=cd}:Pk)=P:=⟨_,rfl⟩;obtain⟨H,hH⟩:∃H:Hs,({hs0 with props:=⟨A,q⟩,filters:=F,codes:=C}:Hs)=H:=⟨_,rfl⟩;have HFU2:Hid (jj v k s=P):=aa (by unfold jj;rw[hls,HPE.o,HM2.o,<-hP,HM.o];rfl);rw[hP,hH]at hpk HST0;rw[hH]at HFC;have HPK:=aa hpk;have HOK:Hid (PkOk P):=aa (by rw[<-HFU2.o];exact lU (by have:=HS.o;omega));have HRR:Hid (sbR v k s=Qx P s a (0:Int) (sbE v P)):=aa (by
    unfold sbR;rw[ae (by rw[HK.o];decide),hls,HFU2.o];simp only;unfold Qx QE;rw[ae (show ¬((0:Int)=0/\a<s.size)from fun y=>by rcases HEnd.o with h| h;exact h y.1;omega)]
    by_cases h0:((0:Int):Int)=0
    ·rw[ae (fun x=>x h0),if_pos h0]
    ·rw[if_pos h0,ae h0,if_pos h0])
   have HL2:=cf (hpk.drewN 1);clear hls hP hH hpk
   go_wp2_with fail
   refine je (fun w'=>(kZ (.pointer (some ⟨gp,0,none⟩))).run prog w'= .ok (pkV P H) w') [5] (by kernel_rfl) ?_;refine Uo (i:=0) (v:=?vq_0) [5] rfl (Or.inl ⟨by rfl,?hq_0⟩) HL2 ?rq_0
   case hq_0=>intro w' hSw;(try dsimp only at hSw);go_simp;try with_reducible rfl
   refine Uo (i:=1) (v:=?vq_1) [5] rfl (Or.inl ⟨by rfl,?hq_1⟩) HL2 ?rq_1
   case hq_1=>intro w' hSw;(try dsimp only at hSw);go_simp;try with_reducible rfl
   refine Uo (i:=2) (v:=?vq_2) [4,5] rfl (Or.inl ⟨by rfl,?hq_2⟩) HL2 ?rq_2
   case hq_2=>intro w' hSw;(try dsimp only at hSw);go_simp;try with_reducible rfl
   refine Uo (i:=3) (v:=?vq_3) [4,5] rfl (Or.inl ⟨by rfl,?hq_3⟩) HL2 ?rq_3
   case hq_3=>intro w' hSw;(try dsimp only at hSw);go_simp;try with_reducible rfl
   refine Up 4 rfl (fun K hK=>?_);go_simp
   go_at_call 184
   refine(Kh v P H _ (HST0.o _ ((Mods.refl _).drewN 1)) HOK.o).mono ?_;rintro e' z1 ⟨rfl,hb⟩;have J1:=aa ((J0.o.drewN 1).below hb);have HM1:Hid (Mods (two (w.heap.size+1) w.heap.size) w3 z1):=aa (((Mods.refl _).drewN 1).trans (Mods.of_below hb));have KP:=aa ((HPK.o.drewN 1).below hb (HPK.o.drewN 1).lt);clear hb HL2;have HL2:=cf KP.o;go_simp;refine hK.out _ _ (fun _=>HL2) ?_;clear hK K;refine Up 5 rfl (fun K hK=>?_);go_simp
   go_at_call 206
   refine(Rm (w.heap.size+1) a s (0:Int) (sbE v P) P H _ J1.o.cur (fun y hm=>HST0.o y (HM1.o.trans (hm.mono (fun _ _ h=>.inl h))))).mono ?_;rintro e' z2 ⟨kk,hkk,rfl,hi,hm⟩;go_simp;refine hK.out _ _ (fun hn=>absurd (hn 5 (by simp)) (by decide)) (mc (d:=5) (by simp) _ _ _ _ (by kernel_rfl) ?_);clear hK K HL2;have HRP:Hid ((Qx P s a (0:Int) (sbE v P)).1=P\/(Qx P s a (0:Int) (sbE v P)).1=pk0):=aa (by unfold Qx;split;exact .inr rfl;exact .inl rfl);obtain⟨R,hR⟩:∃R,Qx P s a (0:Int) (sbE v P)=R:=⟨_,rfl⟩;rw[hR]at hi hkk HRR HRP⊢;clear hR;have HST:Hid (∀y,z2.grownBy y (some w.heap.size)->PkIn y y.heap.size R.1 kk):=aa (fun y hy=>by
    have hmm:Mods (two (w.heap.size+1) w.heap.size) w3 y:=HM1.o.trans ((Mods.of_grown hm (.inl rfl)).trans (Mods.of_grown hy (.inr rfl)));rcases HRP.o with h1| h1
    ·rw[h1];rcases hkk with h2| ⟨h2,h3⟩
     ·rw[h2];exact HST0.o y hmm
     ·rw[h2,<-h1,h3];exact wM _ _
    ·rw[h1];exact⟨Rd.nil _ _ _ _,Rd.nil _ _ _ _,Rd.nil _ _ _ _,Rd.nil _ _ _ _,ag _,ag _,ag _,ag _⟩)
   have HR2:=aa (J1.o.res.mods (S:=fun z=>z=w.heap.size+1) (Mods.of_grown hm rfl) J1.o.ne.2.1);have HB2':=aa (dw J1.o.kept hm J1.o.kept.size J1.o.base.2.2);have hst:=aW HR2.o;have HFK:Hid (∀b o,kk.codes.a=some ⟨b,o,none⟩->w.heap.size<=b):=aa (fun b o e=>by
    rcases hkk with h2| ⟨h2,-⟩
    ·rw[h2]at e;exact HFC.o b o e
    ·rw[h2]at e;cases e)
   clear hi hkk;refine Qw (i:=6) (v:=?vq_6) rfl (by kernel_rfl) (by kernel_rfl) (by kernel_rfl) (fun _ _ _ h=>h) (Or.inl ⟨by rfl,?hq_6⟩) ?rq_6
   case hq_6=>intro w';go_simp;try with_reducible rfl
   refine Qw (i:=7) (v:=?vq_7) rfl (by kernel_rfl) (by kernel_rfl) (by kernel_rfl) (fun _ _ _ h=>h) (Or.inl ⟨by rfl,?hq_7⟩) ?rq_7
   case hq_7=>intro w';go_simp;try with_reducible rfl
   refine Uq 8 rfl (fun K hK=>?_);go_simp;refine hK.out _ _ ?_;clear hK K;refine Uq 9 rfl (fun K hK=>?_);go_simp;refine hK.out _ _ ?_;clear hK K;refine QB (by kernel_rfl) ?_ _;go_wp2;refine av (aI rfl _ rfl (cO HR2.o _ _)) rfl ?_;rw[HRR.o];exact⟨kk,rfl,HST.o _ (cJ _ _ _ _),bT HB2'.o HB2'.o.size (ac _) _ _,HFK.o⟩
  have e2:0<s.size- a:=by omega
  have HZ2:Hid (a<s.size):=aa (by omega);clear hz
  go_wp2_with fail
  refine(No k _).mono ?_;rintro e' w4 ⟨rfl,hw4⟩;subst hw4;cases hask:jm k
  ·have HA:=aa hask;have HLF:Hid (lsR v k s n (a+1) 0 fi (cd++[((br s a 0 1:Nat):Int)])=RES):=aa (by
    rw[<-HL.o,ae (by have:=HZ2.o;rintro (h| h);exact h rfl;omega),ae (by rw[hask];decide)])
   have HLC:Hid (cd.length<=1000000000000):=aa (by have h1:=HLEN.o (by first| rfl| trivial);have h2:=HZ2.o;have h3:=HS.o;omega);have HNUM:Hid ((aH s a 0 1).2.1=a+1/\(aH s a 0 1).2.2=0):=aa (by
    have:aH s a 0 1=(s.extract a (a+1),a+1,0):=dZ (k:=1) HZ2.o;rw[this];exact⟨rfl,rfl⟩)
   have hn:br s a 0 1<256:=iV s a 0;obtain⟨y,hy⟩:∃y,br s a 0 1=y:=⟨_,rfl⟩;rw[hy]at hn HLF;have HY:=aa hy;have hwy:IntKind.i64.wrap (y:Int)=(y:Int):=by rw[aQ];omega
   clear hask HL hy hn;have HS:=(J0.o.pk.cell 22).trans (bS _ _);simp only at HS
   go_wp2_with fail
   refine je (fun w'=>w'.cell? ⟨gp,22,none⟩=some (.slice C.a cd.length C.c)) [8] (by kernel_rfl) ?_
   replace HS:w3.drew.cell? ⟨gp,22,none⟩=some (.slice C.a cd.length C.c):=HS
   refine Uo (i:=0) (v:=?vc_0) [8] rfl (Or.inl ⟨by rfl,?hc_0⟩) HS ?rc_0
   case hc_0=>intro w' hSw;(try dsimp only at hSw);go_simp;try with_reducible rfl
   refine Uo (i:=1) (v:=?vc_1) [8] rfl (Or.inl ⟨by rfl,?hc_1⟩) HS ?rc_1
   case hc_1=>intro w' hSw;(try dsimp only at hSw);go_simp;try with_reducible rfl
   refine Uo (i:=2) (v:=?vc_2) [8] rfl (Or.inl ⟨by rfl,?hc_2⟩) HS ?rc_2
   case hc_2=>intro w' hSw;(try dsimp only at hSw);go_simp;try with_reducible rfl
   refine Up 3 rfl (fun K hK=>?_);go_simp
   go_at_call 203
   refine(Qz (w.heap.size+1) a s 0 1 _ (J0.o.drewN 1).cur (by decide)).mono ?_;rintro e' y1 ⟨rfl,hc,hm⟩;rw[HNUM.o.1,HNUM.o.2]at hc;have J1:=aa ((J0.o.drewN 1).turn hc (Mods.of_grown hm rfl));have P1:Hid (lR W1 y1 cd C):=aa ((show lR W1 (w3.drewN 1) cd C from OC1.o).turn (Mods.of_grown (S:=fun z=>z=w.heap.size+1) hm rfl) J0.o.lt.2.2);rw[HY.o];clear hc hm HS;have HS:=(J1.o.pk.cell 22).trans (bS _ _);simp only at HS;go_simp;refine hK.out _ _ (fun _=>HS) ?_;clear hK K;refine Uo (i:=4) (v:=?vc_4) [8] rfl (Or.inl ⟨by rfl,?hc_4⟩) HS ?rc_4
   case hc_4=>intro w' hSw;(try dsimp only at hSw);go_simp;try with_reducible rfl
   refine Up 5 rfl (fun K hK=>?_);go_simp;have J2:=aa (J1.o.alloc (.cells #[.int .i64 (y:Int)] 3));have P2:=aa (jh P1.o (.cells #[.int .i64 (y:Int)] 3));clear HS;have HS:=(J2.o.pk.cell 22).trans (bS _ _);simp only at HS;refine hK.out _ _ (fun _=>HS) ?_;clear hK K;refine Up 6 rfl (fun K hK=>?_);refine mS rfl (.tmp 53) (.tmp 57) 26 rfl W1.heap.size 3 _ 1 8 underlying26 Cw rfl (by decide) (.slice C.a cd.length C.c) _ _ rfl P2.o _ _ 1 1 [.int .i64 (y:Int)] rfl (Rd.lit _ _ _ rfl (ed _) rfl) (by intro u hu;simp at hu;subst hu;rfl) (by have:=HLC.o;unfold maxLen;omega) (by have:=HLC.o;omega) J2.o.size.2 ?_;intro v' y3 hown hg hat;obtain⟨A',c',rfl,hcap,hrd⟩:=jK hown;have J3:=aa (J2.o.grown hg (fun q hq=>(cX P2.o q hq).1));clear hcap hrd HS;have HS:=(J3.o.pk.cell 22).trans (bS _ _);simp only at HS;refine hK.out _ _ (fun _=>HS) ?_;clear hK K;refine Uo (i:=7) (v:=?vc_7) [8] rfl (Or.inl ⟨by rfl,?hc_7⟩) HS ?rc_7
   case hc_7=>intro w' hSw;(try dsimp only at hSw);go_simp;try with_reducible rfl
   have f22:=J3.o.pk.free 22;refine Up 8 rfl (fun K hK=>?_);go_simp;refine hK.out _ _ (fun hn=>absurd (hn 8 (by simp)) (by decide)) (mc (d:=8) (by simp) _ _ _ _ (by kernel_rfl) ?_);clear hK K HS;refine QB (by kernel_rfl) ?_ _;go_wp2
   go_roundg n
   case measure=>omega
   case rel=>
    obtain⟨hn1,hn2⟩:=HNIL.o.2 HA.o;refine⟨a+1,0,fi,cd++[(y:Int)],F,⟨A',c'⟩,HLF.o,fun h0=>(by have:=HFU.o (by first| rfl| trivial);have:=HZ2.o;omega),fun h0=>?_,⟨fun h=>(by rw[HA.o]at h;cases h),fun _=>⟨hn1,hn2⟩⟩,J3.o.put 22 _ (Aq {aP k id 0 l with filters:=fi} {hs0 with props:=⟨A,q⟩,filters:=F} cd (y:Int) A' c' C),?_,lR.snoc hown _ J3.o.lt.2.1⟩
    ·have h1:=HLEN.o (by first| rfl| trivial);rw[List.length_append,hn1];exact⟨ag _,by simp;omega⟩
    ·rw[hn1,hn2];exact dD _ _ _ _
  ·have HA:=aa hask;have HK8:Hid (k=8\/k=10):=aa (aR hask);have HLF:Hid (lsR v k s n (fiR v k s a).2.1 (fiR v k s a).2.2 (fi++[(fiR v k s a).1]) cd=RES):=aa (by
    rw[<-HL.o,ae (by have:=HZ2.o;rintro (h| h);exact h rfl;omega),if_pos hask])
   have HFB:Hid ((fiR v k s a).2.2=0->a<(fiR v k s a).2.1/\(fiR v k s a).2.1<=s.size):=aa (fun h=>by have h2:=vA (v:=v) HK8.o (pf HZ2.o) h;exact⟨h2.1,h2.2.1⟩);have HLF2:Hid (fi.length<=1000000000000):=aa (by have h1:=HLEN.o (by first| rfl| trivial);have h2:=HZ2.o;have h3:=HS.o;omega);clear hask HL;have HS:=(J0.o.pk.cell 23).trans (bP _ _);simp only at HS
   go_wp2_with fail
   refine je (fun w'=>w'.cell? ⟨gp,23,none⟩=some (.slice F.a fi.length F.c)) [9] (by kernel_rfl) ?_
   replace HS:w3.drew.cell? ⟨gp,23,none⟩=some (.slice F.a fi.length F.c):=HS
   refine Uo (i:=0) (v:=?vf_0) [9] rfl (Or.inl ⟨by rfl,?hf_0⟩) HS ?rf_0
   case hf_0=>intro w' hSw;(try dsimp only at hSw);go_simp;try with_reducible rfl
   refine Uo (i:=1) (v:=?vf_1) [9] rfl (Or.inl ⟨by rfl,?hf_1⟩) HS ?rf_1
   case hf_1=>intro w' hSw;(try dsimp only at hSw);go_simp;try with_reducible rfl
   refine Uo (i:=2) (v:=?vf_2) [9] rfl (Or.inl ⟨by rfl,?hf_2⟩) HS ?rf_2
   case hf_2=>intro w' hSw;(try dsimp only at hSw);go_simp;try with_reducible rfl
   refine Uo (i:=3) (v:=?vf_3) [9] rfl (Or.inl ⟨by rfl,?hf_3⟩) HS ?rf_3
   case hf_3=>intro w' hSw;(try dsimp only at hSw);go_simp;try with_reducible rfl
   refine Uo (i:=4) (v:=?vf_4) [9] rfl (Or.inl ⟨by rfl,?hf_4⟩) HS ?rf_4
   case hf_4=>intro w' hSw;(try dsimp only at hSw);go_simp;try with_reducible rfl
   refine Up 5 rfl (fun K hK=>?_);go_simp
   go_at_call 213
   refine(SJ v k (w.heap.size+1) a s _ (J0.o.drewN 1).cur HK8.o).mono ?_;rintro e' y1 ⟨rfl,hc,hm⟩;have J1:=aa ((J0.o.drewN 1).turn hc hm);have P1:Hid (iE W1 y1 fi F):=aa ((show iE W1 (w3.drewN 1) fi F from OF1.o).turn hm J0.o.lt.2.2);obtain⟨fr,hfr⟩:∃r,fiR v k s a=r:=⟨_,rfl⟩;rw[hfr]at J1 HLF HFB⊢;clear hc hm HS hfr;obtain⟨f,a7,e7⟩:=fr;simp only[fiV]at J1 HLF HFB⊢;have HS:=(J1.o.pk.cell 23).trans (bP _ _);simp only at HS;go_simp;refine hK.out _ _ (fun _=>HS) ?_;clear hK K;refine Up 6 rfl (fun K hK=>?_);go_simp;have J2:=aa (J1.o.alloc (.cells #[.string f.topic,.int .i64 f.qos,.bool f.noLocal,.bool f.asPub,.int .i64 f.handling] 32));have P2:=aa (jh P1.o (.cells #[.string f.topic,.int .i64 f.qos,.bool f.noLocal,.bool f.asPub,.int .i64 f.handling] 32));clear HS;have HS:=(J2.o.pk.cell 23).trans (bP _ _);simp only at HS;refine hK.out _ _ (fun _=>HS) ?_;clear hK K;refine Up 7 rfl (fun K hK=>?_);refine mS rfl (.tmp 44) (.tmp 49) 27 rfl W1.heap.size 32 _ 5 40 underlying27 oP rfl (by decide) (.slice F.a fi.length F.c) _ _ rfl P2.o _ _ 1 1 (fiC f) rfl (Bv _ f) (yG f) (by have:=HLF2.o;unfold maxLen;omega) (by have:=HLF2.o;omega) J2.o.size.2 ?_;intro v' y3 hown hg hat;obtain⟨A',c',rfl,hcap,hrd⟩:=jK hown;have J3:=aa (J2.o.grown hg (fun q hq=>(cX P2.o q hq).1));clear hcap hrd HS;have HS:=(J3.o.pk.cell 23).trans (bP _ _);simp only at HS;refine hK.out _ _ (fun _=>HS) ?_;clear hK K;refine Uo (i:=8) (v:=?vf_8) [9] rfl (Or.inl ⟨by rfl,?hf_8⟩) HS ?rf_8
   case hf_8=>intro w' hSw;(try dsimp only at hSw);go_simp;try with_reducible rfl
   have f23:=J3.o.pk.free 23;refine Up 9 rfl (fun K hK=>?_);go_simp;refine hK.out _ _ (fun hn=>absurd (hn 9 (by simp)) (by decide)) (mc (d:=9) (by simp) _ _ _ _ (by kernel_rfl) ?_);clear hK K HS;refine QB (by kernel_rfl) ?_ _;go_wp2
   go_roundg n
   case measure=>omega
   case rel=>
    obtain⟨hn1,hn2⟩:=HNIL.o.1 HA.o;refine⟨a7,e7,fi++[f],cd,⟨A',c'⟩,C,HLF.o,fun h0=>(by obtain⟨b1,b2⟩:=HFB.o h0;have:=HFU.o (by first| rfl| trivial);have:=HZ2.o;omega),fun h0=>?_,⟨fun _=>⟨hn1,hn2⟩,fun h=>(by rw[HA.o]at h;cases h)⟩,J3.o.put 23 _ (oT {aP k id 0 l with codes:=cd} {hs0 with props:=⟨A,q⟩,codes:=C} fi f A' c' F),iE.snoc hown _ J3.o.lt.2.1,?_⟩
    ·obtain⟨b1,b2⟩:=HFB.o h0;have h1:=HLEN.o (by first| rfl| trivial);rw[List.length_append,hn1];exact⟨by simp;omega,ag _⟩
    ·rw[hn1,hn2];exact dD _ _ _ _
end
section
attribute [local go_sem ↓] bD bF bH bI bu
attribute [local go_sem] bc aD bh bg bK bJ bd aY be aO ax cI dC dB dt dj di dA dr dp dn bW co bO bZ bX cz cy cw cu ct cC cn bS bP bR
theorem RP(v:Int)(x:Hdr)(s:ByteArray)(w:World)(hs:s.size<=1000000000000):
  Calls prog 91 #[.int .i64 v,Cx x,.string s] w (lQ (chR v x s) w):=by
 obtain⟨k,f,n⟩:=x;have HS:=aa hs;have HE:Hid (chR v ⟨k,f,n⟩ s=if k<=2 then iB v k s else if k=3 then km v f s else if k<=7 then iW v k s else if k<=11 then sbR v k s else gX v k s):=aa rfl;have HB:=aa (((aq w.heap.size w).alloc (ac _) (.cells #[.int .i64 k,.int .i64 f,.int .i64 n] 112)).alloc (by simp) (.cells (pkC pk0 hs0) PkT));have K0:=aa ((Bk.fresh w 112 #[.int .i64 k,.int .i64 f,.int .i64 n]).alloc (.cells (pkC pk0 hs0) PkT));have K1:=aa (Bk.fresh (w.alloc (.cells #[.int .i64 k,.int .i64 f,.int .i64 n] 112)) PkT (pkC pk0 hs0));have c0:=K0.o.cell 0;have c1:=K0.o.cell 1
 simp only[ay,aE,aB]at c0 c1;have hsz:(w.alloc (.cells #[.int .i64 k,.int .i64 f,.int .i64 n] 112)).heap.size=w.heap.size+1:=by simp
 rw[hsz]at K1;have HG:Hid (w.heap.size<=w.heap.size+1):=aa (by omega);clear hs hsz;show Calls _ _ #[.int .i64 v,.agg #[.int .i64 k,.int .i64 f,.int .i64 n],.string s] _ _
 by_cases q0:k<=2
 ·have HX:Hid (chR v ⟨k,f,n⟩ s=iB v k s):=aa (by rw[HE.o,if_pos (by omega)]);have t0:k<=2:=by omega
  clear HE q0;go_enter func91,ntmps91
  go_wp2_with fail
  refine(Sl v k s _ (by have:=HS.o;omega)).mono ?_;rintro e w1 hO;obtain⟨hh,rfl,hi,hb,hf⟩:=hO.plain (xy _ _ _);have HF:=aa hf;have HB1:=aa (HB.o.trans (hb.mono HB.o.size));have HI1:=aa hi;have K2:=aa (K1.o.below hb K1.o.lt);clear c0 c1;have hst:=aW K2.o (iB v k s).1 hh;clear hi hb hf hO;generalize iB v k s=R at*;go_wp2;refine av (aI rfl _ rfl (cO K2.o R.1 hh)) rfl ?_;rw[HX.o];have hb2:=bT HB1.o HB1.o.size HG.o R.1 hh;exact⟨hh,rfl,HI1.o.put K2.o (cJ _ _ _ _) HF.o (by simp),hb2,HF.o.mono (by simp;omega)⟩
 by_cases q1:k=3
 ·have HX:Hid (chR v ⟨k,f,n⟩ s=km v f s):=aa (by rw[HE.o,ae (by omega),if_pos (by omega)]);have f0:2<k:=by omega
  have t1:(k==3)=true:=aK.2 (by omega);clear HE q0 q1;go_enter func91,ntmps91
  go_wp2_with fail
  refine(RE v f s _ (by have:=HS.o;omega)).mono ?_;rintro e w1 hO;obtain⟨hh,rfl,hi,hb,hf⟩:=hO.plain (wJ _ _ _);have HF:=aa hf;have HB1:=aa (HB.o.trans (hb.mono HB.o.size));have HI1:=aa hi;have K2:=aa (K1.o.below hb K1.o.lt);clear c0 c1;have hst:=aW K2.o (km v f s).1 hh;clear hi hb hf hO;generalize km v f s=R at*;go_wp2;refine av (aI rfl _ rfl (cO K2.o R.1 hh)) rfl ?_;rw[HX.o];have hb2:=bT HB1.o HB1.o.size HG.o R.1 hh;exact⟨hh,rfl,HI1.o.put K2.o (cJ _ _ _ _) HF.o (by simp),hb2,HF.o.mono (by simp;omega)⟩
 by_cases q2:k<=7
 ·have HX:Hid (chR v ⟨k,f,n⟩ s=iW v k s):=aa (by rw[HE.o,ae (by omega),ae (by omega),if_pos (by omega)]);have f0:2<k:=by omega
  have f1:(k==3)=false:=ar.2 (by omega);have t2:k<=7:=by omega
  clear HE q0 q1 q2;go_enter func91,ntmps91
  go_wp2_with fail
  refine(RM v k s _ (by have:=HS.o;omega)).mono ?_;rintro e w1 hO;obtain⟨hh,rfl,hi,hb,hf⟩:=hO.plain (xJ _ _ _);have HF:=aa hf;have HB1:=aa (HB.o.trans (hb.mono HB.o.size));have HI1:=aa hi;have K2:=aa (K1.o.below hb K1.o.lt);clear c0 c1;have hst:=aW K2.o (iW v k s).1 hh;clear hi hb hf hO;generalize iW v k s=R at*;go_wp2;refine av (aI rfl _ rfl (cO K2.o R.1 hh)) rfl ?_;rw[HX.o];have hb2:=bT HB1.o HB1.o.size HG.o R.1 hh;exact⟨hh,rfl,HI1.o.put K2.o (cJ _ _ _ _) HF.o (by simp),hb2,HF.o.mono (by simp;omega)⟩
 by_cases q3:k<=11
 ·have HX:Hid (chR v ⟨k,f,n⟩ s=sbR v k s):=aa (by rw[HE.o,ae (by omega),ae (by omega),ae (by omega),if_pos (by omega)]);have f0:2<k:=by omega
  have f1:(k==3)=false:=ar.2 (by omega);have f2:7<k:=by omega
  have t3:k<=11:=by omega
  clear HE q0 q1 q2 q3;go_enter func91,ntmps91
  go_wp2_with fail
  refine(SZ v k s _ HS.o).mono ?_;rintro e w1 hO;obtain⟨hh,rfl,hi,hb,hf⟩:=hO.plain;have HF:=aa hf;have HB1:=aa (HB.o.trans (hb.mono HB.o.size));have HI1:=aa hi;have K2:=aa (K1.o.below hb K1.o.lt);clear c0 c1;have hst:=aW K2.o (sbR v k s).1 hh;clear hi hb hf hO;generalize sbR v k s=R at*;go_wp2;refine av (aI rfl _ rfl (cO K2.o R.1 hh)) rfl ?_;rw[HX.o];have hb2:=bT HB1.o HB1.o.size HG.o R.1 hh;exact⟨hh,rfl,HI1.o.put K2.o (cJ _ _ _ _) HF.o (by simp),hb2,HF.o.mono (by simp;omega)⟩
 have HX:Hid (chR v ⟨k,f,n⟩ s=gX v k s):=aa (by rw[HE.o,ae (by omega),ae (by omega),ae (by omega),ae (by omega)]);have f0:2<k:=by omega
 have f1:(k==3)=false:=ar.2 (by omega);have f2:7<k:=by omega
 have f3:11<k:=by omega
 clear HE q0 q1 q2 q3;go_enter func91,ntmps91
 go_wp2_with fail
 refine(RH v k s _ (by have:=HS.o;omega)).mono ?_;rintro e w1 hO;obtain⟨hh,rfl,hi,hb,hf⟩:=hO.plain (xw _ _ _);have HF:=aa hf;have HB1:=aa (HB.o.trans (hb.mono HB.o.size));have HI1:=aa hi;have K2:=aa (K1.o.below hb K1.o.lt);clear c0 c1;have hst:=aW K2.o (gX v k s).1 hh;clear hi hb hf hO;generalize gX v k s=R at*;go_wp2;refine av (aI rfl _ rfl (cO K2.o R.1 hh)) rfl ?_;rw[HX.o];have hb2:=bT HB1.o HB1.o.size HG.o R.1 hh;exact⟨hh,rfl,HI1.o.put K2.o (cJ _ _ _ _) HF.o (by simp),hb2,HF.o.mono (by simp;omega)⟩
end
section
attribute [local go_sem ↓] bD bF bH bI bu
attribute [local go_sem] bc aD bh bg bK bJ bd aY be aO ax cI dC dB dt dj di dA dr dp dn bW co bO bZ bX cz cy cw cu ct cC cn bS bP bR
attribute [local go_sem ↓] xS
attribute [local go_sem] um
def Tz(y:World)(R:Pk×Int)(z pz:Value)(wx:World):Prop:=∃hh g,z= .int .i64 R.2/\pz= .pointer (some ⟨g,0,none⟩)/\y.heap.size<=g/\Bk wx g PkT (pkC R.1 hh)/\PkIn wx wx.heap.size R.1 hh/\Below y.heap.size y wx/\ja y R.1 hh
theorem Rt{y w3:World}{R:Pk×Int}{hh:Hs}(hi:PkIn w3 w3.heap.size R.1 hh)(hb:Below (y.alloc (.cells (pkC pk0 hs0) PkT)).drew.heap.size (y.alloc (.cells (pkC pk0 hs0) PkT)).drew w3)(hf:ja (y.alloc (.cells (pkC pk0 hs0) PkT)).drew R.1 hh):
  (zc (.pointer (some ⟨y.heap.size,0,none⟩)) (pkV R.1 hh)).run prog w3= .ok () (dE w3 y.heap.size R.1 hh)/\Tz y R (.int .i64 R.2) (.pointer (some ⟨y.heap.size,0,none⟩)) (dE w3 y.heap.size R.1 hh):=by
 have hk0:Bk (y.alloc (.cells (pkC pk0 hs0) PkT)).drew y.heap.size PkT (pkC pk0 hs0):=(Bk.fresh y PkT (pkC pk0 hs0)).drewN 1;have hk:=hk0.below hb hk0.lt;have hb0:Below y.heap.size y (y.alloc (.cells (pkC pk0 hs0) PkT)).drew:=aV ((aq y.heap.size y).alloc (ac _) (.cells (pkC pk0 hs0) PkT)) 1;exact⟨aW hk R.1 hh,hh,y.heap.size,rfl,rfl,ac _,cO hk R.1 hh,hi.put hk (cJ _ _ _ _) hf hk0.lt,bT (hb0.trans (hb.mono hb0.size)) (aC hb0.size hb.size) (ac _) R.1 hh,hf.mono hb0.size⟩
theorem SX{y w3:World}{R:Pk×Int}{hh:Hs}(hi:PkIn w3 w3.heap.size R.1 hh)(hb:Below y.drew.heap.size y.drew w3)(hf:ja y.drew R.1 hh):
  Tz y R (.int .i64 R.2) (.pointer (some ⟨w3.heap.size,0,none⟩)) (w3.alloc (.cells (pkC R.1 hh) PkT)):=
 ⟨hh,w3.heap.size,rfl,rfl,hb.size,Bk.fresh _ _ _,hi.next ((aq _ _).alloc (ac _) _),((aV (aq y.heap.size y) 1).trans hb).alloc hb.size _,hf⟩
theorem Sf(v:Int)(s:ByteArray)(w:World)(hs:s.size<=1000000000000):Calls prog 26 #[.int .i64 v,.string s] w (tM (mqR v s) w):=by
 have HE:Hid (mqR v s=if(hdR v s).2.2≠0 then(pk0,0,(hdR v s).2.2)
  else if s.size<(hdR v s).2.1+(hdR v s).1.n then(pk0,0,3)
  else if(chR v (hdR v s).1 (s.extract (hdR v s).2.1 ((hdR v s).2.1+(hdR v s).1.n))).2=0 then((chR v (hdR v s).1 (s.extract (hdR v s).2.1 ((hdR v s).2.1+(hdR v s).1.n))).1,(hdR v s).2.1+(hdR v s).1.n,0)
  else(pk0,0,if(chR v (hdR v s).1 (s.extract (hdR v s).2.1 ((hdR v s).2.1+(hdR v s).1.n))).2=3 then 5 else(chR v (hdR v s).1 (s.extract (hdR v s).2.1 ((hdR v s).2.1+(hdR v s).1.n))).2)):=aa rfl
 have HS:=aa hs;have HB:=aa ((aq w.heap.size w).alloc (ac _) (.cells (pkC pk0 hs0) PkT));have HK:=aa (Bk.fresh w PkT (pkC pk0 hs0));have HHD:=aa (fun W=>Q8 v s W hs);have HBK:Hid ((hdR v s).2.2=0->(hdR v s).1.n<=268435455/\(hdR v s).2.1<=s.size):=aa (fun h0=>by
  obtain⟨b1,b2,b3,b4,b5⟩:=kw (v:=v) (s:=s) (h:=(hdR v s).1) (a:=(hdR v s).2.1) (by rw[<-h0]);exact⟨b2,b5⟩)
 clear hs;obtain⟨⟨⟨k,f,n⟩,a,x⟩,hr⟩:∃r,hdR v s=r:=⟨_,rfl⟩;rw[hr]at HE HHD HBK;simp only[Cx]at HE HHD HBK;clear hr;go_enter func26,ntmps26
 go_wp2_with fail
 refine(HHD.o _).mono ?_;rintro e w1 ⟨rfl,hb⟩;have HB1:=aa (HB.o.trans (hb.mono HB.o.size));have HK1:=aa (HK.o.below hb HK.o.lt);clear hb HHD HB HK;obtain⟨y,hy⟩:∃y,w1.alloc (.cells #[.int .i64 k,.int .i64 f,.int .i64 n] 112)=y:=⟨_,rfl⟩;have HB2:Hid (Below w.heap.size w y):=aa (by rw[<-hy];exact HB1.o.alloc HB1.o.size _);have HK2:Hid (Bk y w.heap.size PkT (pkC pk0 hs0)):=aa (by rw[<-hy];exact HK1.o.alloc _);obtain⟨gh,hgh⟩:∃gh,w1.heap.size=gh:=⟨_,rfl⟩;have HH:Hid (Bk y gh 112 #[.int .i64 k,.int .i64 f,.int .i64 n]):=aa (by rw[<-hy,<-hgh];exact Bk.fresh w1 _ _);have HGH:Hid (w.heap.size<gh):=aa (by rw[<-hgh];exact HK1.o.lt)
 go_upto_region 2 with fail
 clear hy hgh HB1 HK1;clear w1;have hst:=aW HK2.o pk0 hs0;have HBD:Hid (Below w.heap.size w (dE y w.heap.size pk0 hs0)):=aa (bT HB2.o HB2.o.size (ac _) pk0 hs0);have HKP:=aa (cO HK2.o pk0 hs0)
 by_cases hx:x=0
 rotate_left
 ·have HX:Hid (mqR v s=(pk0,0,x)):=aa (by rw[HE.o,if_pos hx]);have e0:(x !=0)=true:=aA.2 hx;clear hx;go_wp2;refine av (eZ rfl _ rfl HKP.o) rfl ?_;exact gR HX.o HBD.o
 obtain⟨b2,b3⟩:=HBK.o hx;have HE1:Hid (mqR v s=if s.size<a+n then(pk0,0,3)else if(chR v ⟨k,f,n⟩ (s.extract a (a+n))).2=0 then((chR v ⟨k,f,n⟩ (s.extract a (a+n))).1,a+n,0)
  else(pk0,0,if(chR v ⟨k,f,n⟩ (s.extract a (a+n))).2=3 then 5 else(chR v ⟨k,f,n⟩ (s.extract a (a+n))).2)):=aa (by rw[HE.o,ae (fun z=>z hx)])
 subst hx;have HN:=aa b2;have HA:=aa b3
 have hsz:=HS.o;have c0:=HH.o.cell 0;have c1:=HH.o.cell 1;have c2:=HH.o.cell 2
 simp only[ay,aE,aB]at c0 c1 c2;clear HE HBK
 by_cases hlt:s.size<a+n
 ·have HX:Hid (mqR v s=(pk0,0,3)):=aa (by rw[HE1.o,if_pos hlt]);have d1:(s.size:Int) - (a:Int)<(n:Int):=by omega
  have d2: -9223372036854775808<=(s.size:Int) - (a:Int):=by omega
  have d3:(s.size:Int) - (a:Int)<=9223372036854775807:=by omega
  clear hlt;go_wp2;refine av (eZ rfl _ rfl HKP.o) rfl ?_;exact gR HX.o HBD.o
 have HE2:Hid (mqR v s=if(chR v ⟨k,f,n⟩ (s.extract a (a+n))).2=0 then((chR v ⟨k,f,n⟩ (s.extract a (a+n))).1,a+n,0)
  else(pk0,0,if(chR v ⟨k,f,n⟩ (s.extract a (a+n))).2=3 then 5 else(chR v ⟨k,f,n⟩ (s.extract a (a+n))).2)):=aa (by rw[HE1.o,ae hlt])
 have d1:(n:Int)<=(s.size:Int) - (a:Int):=by omega
 have HEND:Hid (a+n<=s.size):=aa (by omega);have d2: -9223372036854775808<=(s.size:Int) - (a:Int):=by omega
 have d3:(s.size:Int) - (a:Int)<=9223372036854775807:=by omega
 have hsu:wrap64 ((s.size:Int) - (a:Int))=(s.size:Int) - (a:Int):=by unfold wrap64;omega
 have dle:decide ((s.size:Int) - (a:Int)<(n:Int))=false:=ah (by omega);have v1:(0:Int)<=(a:Int):=by omega
 have v2:(a:Int)<=(a:Int)+(n:Int):=by omega
 have v3:(a:Int)+(n:Int)<=(s.size:Int):=by omega
 have v4:(a:Int)+(n:Int)<=9223372036854775807:=by omega
 clear hlt HE1
 go_upto_region 6 with fail
 clear hsu dle;obtain⟨q,hq⟩:∃q,a+n=q:=⟨_,rfl⟩;have had:IntKind.i64.wrap ((a:Int)+(n:Int))=(q:Int):=by rw[aQ];omega
 have had2:wrap64 ((a:Int)+(n:Int))=(q:Int):=by unfold wrap64;omega
 rw[hq]at HE2 HEND;clear v2 v3 v4;have v2:(a:Int)<=(q:Int):=by omega
 have v3:(q:Int)<=(s.size:Int):=by have:=HEND.o;omega
 clear hq;obtain⟨T,hT⟩:∃T,s.extract a q=T:=⟨_,rfl⟩;have HTS:Hid (T.size<=1000000000000):=aa (by rw[<-hT,aj];have:=HS.o;omega);have HWR:=aa (fun W=>RP v ⟨k,f,n⟩ T W HTS.o);simp only[Cx]at HWR;rw[hT]at HE2;obtain⟨R,hR⟩:∃R,chR v ⟨k,f,n⟩ T=R:=⟨_,rfl⟩;rw[hR]at HE2 HWR;clear hR hst d1 d2 d3 hsz HTS;have HHA:=aa (HH.o.alloc (.cells (pkC pk0 hs0) PkT));have a0:=HHA.o.cell 0;have a1:=HHA.o.cell 1;have a2:=HHA.o.cell 2
 simp only[ay,aE,aB]at a0 a1 a2
 go_cut [9,10] (fun z pz wx=>Tz y R z pz wx)
 case first=>
  go_region_law ((go_simp;go_at_call 91;refine(HWR.o _).mono ?_;rintro e w3 ⟨hh,rfl,hi3,hb3,hf3⟩;(first| (have hst3:=by(with_reducible exact(Rt hi3 hb3 hf3).1)) | skip);(first| (have hr3:=by(with_reducible exact(Rt hi3 hb3 hf3).2)) | (have hr3:=by(with_reducible exact SX hi3 hb3 hf3)))))
  all_goals
   go_wp2
   go_meet
   case rel=>with_reducible exact hr3
 obtain⟨hh,g,rfl,rfl,hg,hkx,hix,hbx,hfx⟩:=hcut;obtain⟨wx,hwx⟩:∃x,x=wc:=⟨_,rfl⟩;subst hwx;have KX:=aa hkx;have IX:=aa hix;have FX:=aa hfx
 have HX2:=aa (HH.o.below hbx HH.o.lt);have KR:=aa (HK2.o.below hbx HK2.o.lt);have BX:=aa (HB2.o.trans (hbx.mono HB2.o.size));have GX:Hid (w.heap.size<g):=aa (ch HK2.o.lt hg);have HYL2:=aa HK2.o.lt;have hsZ:=aW KR.o pk0 hs0;have hld:(kZ (.pointer (some ⟨g,0,none⟩))).run prog wx.drew= .ok (pkV R.1 hh) wx.drew:=cf (KX.o.drewN 1);have hst:(zc (.pointer (some ⟨w.heap.size,0,none⟩)) (pkV R.1 hh)).run prog wx.drew= .ok () (dE wx.drew w.heap.size R.1 hh):=aW (KR.o.drewN 1) R.1 hh;have e2:wx.drew.cell? ⟨gh,2,none⟩=some (.int .i64 n):=(HX2.o.drewN 1).cell 2;have HXP:=aa ((HX2.o.drewN 1).mods (S:=fun z=>z=w.heap.size) (Mods.of_grown (cJ (wx.drewN 1) w.heap.size R.1 hh) rfl) (by have:=HGH.o;omega));have p2:(dE wx.drew w.heap.size R.1 hh).cell? ⟨gh,2,none⟩=some (.int .i64 n):=HXP.o.cell 2;clear hg hkx hix hbx hfx c0 c1 c2 a0 a1 a2 HWR HK2 HB2 HBD HKP v1 v2 v3 HHA HH b2 b3;obtain⟨P,E⟩:=R;dsimp only at HE2 KX IX FX hsZ hld hst p2⊢
 by_cases hE:E=0
 ·have HX:Hid (mqR v s=(P,q,0)):=aa (by rw[HE2.o,if_pos hE]);subst hE
  go_wp2_with fail
  go_region_law (fail)
  all_goals
   go_wp2;refine av (eZ rfl _ rfl (cO (KR.o.drewN 1) P hh)) rfl ?_;exact zF HX.o ((IX.o.drewN 1).put (KR.o.drewN 1) (cJ _ _ _ _) FX.o HYL2.o) (bT (aV BX.o 1) (aC BX.o.size (ac _)) (ac _) _ _) (FX.o.mono (pf HYL2.o))
 ·have HX0:Hid (mqR v s=(pk0,0,if E=3 then 5 else E)):=aa (by rw[HE2.o,ae hE]);have HBX:=aa (bT BX.o BX.o.size (ac _) pk0 hs0);have HKX:=aa (cO KR.o pk0 hs0)
  by_cases h3:E=3
  ·have HX:Hid (mqR v s=(pk0,0,5)):=aa (by rw[HX0.o,if_pos h3]);have e3:(E==3)=true:=aK.2 h3;clear h3 hE;go_wp2;refine av (eZ rfl _ rfl HKX.o) rfl ?_;exact gR HX.o HBX.o
  ·have HX:Hid (mqR v s=(pk0,0,E)):=aa (by rw[HX0.o,ae h3]);have e3:(E==3)=false:=ar.2 h3;have e9:(E !=0)=true:=aA.2 hE;clear h3 hE;go_wp2;refine av (eZ rfl _ rfl HKX.o) rfl ?_;exact gR HX.o HBX.o
end
end Go.Proofs.YtbdgkkmbnahgiaaGreatDoor
