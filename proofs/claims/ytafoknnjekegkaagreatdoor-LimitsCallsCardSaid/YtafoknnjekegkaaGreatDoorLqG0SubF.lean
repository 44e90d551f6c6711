/- Parts: SubF, Rtd, MSubG, SubJ, MqA. -/
import Derived.Test.YtafoknnjekegkaaGreatDoorLqG0MSubP
import Derived.Deep.LoopGhost
set_option maxRecDepth 10000
set_option maxHeartbeats 8000000
namespace Go.Proofs.YtafoknnjekegkaaGreatDoor
open Go.RowKit Go.Proofs.Tryz
variable {v e k:Int}{w x y:abP}{p q:Pk}{t s:abO}{a g n gp:Nat}{A:Option Addr}{F:Hd}{l:List Fi}
section
theorem Mods.own{S:Nat->Prop}{r:Option Nat}(h:Mods S w x)(hg:x.grownBy y r)(hr:∀k,r=some k->w.heap.size<=k):Mods S w y:=
 ⟨hg.os.trans h.os,hg.tape.trans h.tape,hg.output.trans h.output,aC h.size hg.size,λi a b=>(hg.block i (YU a h.size) (λe=>by have:=hr i e.symm;omega)).trans (h.block i a b)⟩
structure LS (w:abP) (g gp:Nat) (t:abO) (q:Pk) (hq:Hs) (a:Nat) (e:Int) (x:abP):Prop where
 cur:Cur x g t a e
 pk:Bk x gp PkT (pkC q hq)
 mods:Mods (two g gp) w x
 ne:g<w.heap.size/\gp<w.heap.size/\g≠gp
def iE(w x:abP)(l:List Fi)(F:Hd):Prop:=x.ownsRow w.heap.size 49 5 (.slice F.a l.length F.c) l.length (fis l)
def lR(w x:abP)(l:List Int)(C:Hd):Prop:=x.ownsRow w.heap.size 3 1 (.slice C.a l.length C.c) l.length (iv l)
section
variable {w x y:abP} {g gp:Nat} {t:abO} {q:Pk} {hq:Hs} {a a':Nat} {e e':Int}
theorem LS.drewN(s:LS w g gp t q hq a e x)(n:Nat):LS w g gp t q hq a e (x.drewN n):=⟨s.cur,s.pk,s.mods.drewN n,s.ne⟩
theorem LS.below(s:LS w g gp t q hq a e x)(hb:abQ x y):LS w g gp t q hq a e y:=⟨s.cur.below hb,Yh s.pk hb,s.mods.trans (qk hb),s.ne⟩
theorem LS.alloc(s:LS w g gp t q hq a e x)(o:Obj):LS w g gp t q hq a e (x.alloc o):=s.below ((aq _ _).alloc (ac _) o)
theorem LS.turn(s:LS w g gp t q hq a e x)(hc:Cur y g t a' e')(hm:x.grownBy y (some g)):LS w g gp t q hq a' e' y:=
 ⟨hc,s.pk.mods (S:=λi=>i=g) (qb hm rfl) (λe=>s.ne.2.2 e.symm),s.mods.trans (qb hm (.inl rfl)),s.ne⟩
theorem LS.grown(s:LS w g gp t q hq a e x){r:Option Nat}(hg:x.grownBy y r)(hr:∀k,r=some k->w.heap.size<=k):LS w g gp t q hq a e y:=
 ⟨⟨(hg.block g s.cur.lt (λh=>by have:=hr g h.symm;have:=s.ne;omega)).trans s.cur.1,s.cur.2⟩,(hg.block gp s.pk.lt (λh=>by have:=hr gp h.symm;have:=s.ne;omega)).trans s.pk,s.mods.own hg hr,s.ne⟩
theorem LS.put(s:LS w g gp t q hq a e x)(i:Nat)(u:Value){q':Pk}{hq':Hs}(hu:(pkC q hq).setIfInBounds i u=pkC q' hq'):LS w g gp t q' hq' a e (x.setCell ⟨gp,i,none⟩ u):=
 ⟨⟨s.cur.1.other (by have:=s.ne.2.2;simpa using this) _,s.cur.2⟩,s.pk.upd i u hu,s.mods.set gp i (.inl (.inr rfl)) _,s.ne⟩
theorem iE.stay(h:iE w x l F)(hm:x.grownBy y (some g))(hg:g<w.heap.size):iE w y l F:=jg h (qb (S:=λi=>i=g) hm rfl) (λk a e=>by have:=(cX h k a).1;omega)
theorem lR.stay{l:List Int}(h:lR w x l F)(hm:x.grownBy y (some g))(hg:g<w.heap.size):lR w y l F:=jg h (qb (S:=λi=>i=g) hm rfl) (λk a e=>by have:=(cX h k a).1;omega)
end
theorem lR.snoc{l:List Int}{c:Nat}{y:Int}(h:x.ownsRow w.heap.size 3 1 (.slice A (l.length+1) c) (l.length+1) (iv l++[.int .i64 y])){i:Nat}(u:Value)(hg:g<w.heap.size):lR w (x.setCell ⟨g,i,none⟩ u) (l++[y]) ⟨A,c⟩:=by
 have a:lR w x (l++[y]) ⟨A,c⟩:=by
  unfold lR;rw[List.length_append]
  simpa [iv]using h
 exact a.stay (YR x g i u) hg
theorem Aq(q:Pk)(hq:Hs)(l:List Int)(y:Int)(A:Option Addr)(c:Nat)(C:Hd):(pkC {q with codes:=l} {hq with codes:=C}).setIfInBounds 22 (.slice A (l.length+1) c)=pkC {q with codes:=l++[y]} {hq with codes:=⟨A,c⟩}:=by
 rw[show l.length+1=(l++[y]).length by simp];rfl
theorem LS.opt{gf:Nat}{hq:Hs}{a':Nat}{e':Int}(s:LS w g gp t q hq a e x)(hc:Cur y g t a' e')(hm:Mods (two g gf) x y)(hgf:w.heap.size<=gf):LS w g gp t q hq a' e' y:=by
 have d:=s.ne;exact⟨hc,s.pk.mods hm (λh=>by rcases h with h| h<;>omega),⟨hm.os.trans s.mods.os,hm.tape.trans s.mods.tape,hm.output.trans s.mods.output,aC s.mods.size hm.size,λi b c=>
  (hm.block i (YU b s.mods.size) (λh=>by rcases h with h| h;exact c (.inl h);omega)).trans (s.mods.block i b c)⟩,d⟩
theorem iE.opt{gf:Nat}(h:iE w x l F)(hm:Mods (two g gf) x y)(hg:g<w.heap.size)(hlt:∀q,(Value.slice F.a l.length F.c).ownBlock=some q->q<gf):iE w y l F:=
 jg h hm (λk b e=>by have d:=(cX h k b).1;have f:=hlt k b;rcases e with e| e<;>omega)
theorem CJ(l:List Fi)(f:Fi):fis (l++[f])=fis l++fiC f:=by simp[fis]
theorem iE.snoc{c:Nat}{f:Fi}(h:x.ownsRow w.heap.size 49 5 (.slice A (l.length+1) c) (l.length+1) (fis l++fiC f)){i:Nat}(u:Value)(hg:g<w.heap.size):iE w (x.setCell ⟨g,i,none⟩ u) (l++[f]) ⟨A,c⟩:=by
 have a:iE w x (l++[f]) ⟨A,c⟩:=by
  unfold iE;rw[List.length_append,CJ];exact h
 exact a.stay (YR x g i u) hg
theorem aal(q:Pk)(hq:Hs)(l:List Fi)(f:Fi)(A:Option Addr)(c:Nat)(F:Hd):(pkC {q with filters:=l} {hq with filters:=F}).setIfInBounds 23 (.slice A (l.length+1) c)=pkC {q with filters:=l++[f]} {hq with filters:=⟨A,c⟩}:=by
 rw[show l.length+1=(l++[f]).length by simp];rfl
theorem Bv(W:abP)(f:Fi):Rd (W.alloc (.cells #[.string f.topic,.int .i64 f.qos,.bool f.noLocal,.bool f.asPub,.int .i64 f.handling] 49)) (W.heap.size+1) 5 (some ⟨W.heap.size,0,none⟩) 1 (fiC f):=by
 have h:=Rd.fresh W (dI f) 49;refine⟨rfl,?_⟩;rcases h.2 with h| h
 ·exact .inl h
 ·exact .inr h
theorem yG(f:Fi):∀u∈fiC f,u.oneCell'=true:=by
 intro u a;simp[fiC]at a;rcases a with rfl| rfl| rfl| rfl| rfl<;>rfl
theorem qn(v k:Int)(t:abO)(n a:Nat)(e:Int)(fi:List Fi)(cd:List Int):lsR v k t (n+1) a e fi cd=
  if e≠0\/t.size<=a then(fi,cd,a,e)
  else if jm k=true then lsR v k t n (fiR v k t a).2.1 (fiR v k t a).2.2 (fi++[(fiR v k t a).1]) cd
  else lsR v k t n (a+1) 0 fi (cd++[((br t a 0 1:Nat):Int)]):=rfl
theorem Es{fi:List Fi}{cd:List Int}(he:e≠0):lsR v k t n a e fi cd=(fi,cd,a,e):=by
 cases n with
 | zero=>rfl
 | succ n=>rw[qn,if_pos (.inl he)]
theorem wA{r:abO}(h:(ab0 r).2.2≠0):(ab0 r).2.1=0:=by
 unfold ab0 dJ at h⊢;split
 ·rfl
 ·rename_i c;rw[Fl c]at h;split
  ·rfl
  ·rename_i a;rw[Fl a]at h;split
   ·rfl
   ·rename_i b;rw[Fl b]at h;exact absurd rfl h
theorem DV(ha:a<=t.size):(aH t a (ab0 (t.extract a t.size)).2.2 ((ab0 (t.extract a t.size)).2.1:Nat)).2=((rtC t a 0).2.1,(rtC t a 0).2.2):=by
 have d:rtC t a 0=((ab0 (t.extract a t.size)).1,a+(ab0 (t.extract a t.size)).2.1,(ab0 (t.extract a t.size)).2.2):=Fl (λx=>x rfl);have c:=(uq (t.extract a t.size)).1;rw[rJ]at c;rw[d];by_cases b:(ab0 (t.extract a t.size)).2.2=0
 ·rw[b,dZ (by omega)]
 ·rw[fY b,wA b];rfl
theorem mB(v:Int)(hv:v=4\/v=5)(k:Int)(hk:ir v k=true)(g gp a0:Nat)(t:abO)(e0:Int)(p:Pk)(h:Hs)(w:abP)(hkp:p.kind=k)(hc:Cur w g t a0 e0)(hp:Bk w gp PkT (pkC {p with filters:=[],codes:=[]} {h with filters:=hd0,codes:=hd0}))(hne:g≠gp)(ht:t.size<=1000000000000):
  Calls prog 167 #[.int .i64 v,.pointer (some ⟨g,0,none⟩),.pointer (some ⟨gp,0,none⟩)] w λe' w'=>
   e'= .returned (.tuple #[])/\∃F C fi cd a e,lsR v k t (t.size+1) a0 e0 [] []=(fi,cd,a,e)/\LS w g gp t {p with filters:=fi,codes:=cd} {h with filters:=F,codes:=C} a e w'/\iE w w' fi F/\lR w w' cd C:=by
 have L0:Hid (LS w g gp t {p with filters:=[],codes:=[]} {h with filters:=hd0,codes:=hd0} a0 e0 w):=aa ⟨hc,hp,Mods.refl _,hc.lt,hp.lt,hne⟩;have HK:=aa hk;have HV:=aa hv;have a5:=aa hkp;have HT:=aa ht
 obtain⟨aI,X⟩:∃R,lsR v k t (t.size+1) a0 e0 [] []=R:=⟨_,rfl⟩;rw[X];have bj:=aa X;clear hk hv hkp hc hp hne ht X;go_enter func167,ntmps167;go_wp2
 go_step3
 go_wp2
 go_step3
 go_wp2
 go_loopg [] (t.size+1) (λn wr=>∃(a:Nat) (e:Int) (fi:List Fi) (cd:List Int) (F C:Hd),lsR v k t n a e fi cd=aI/\(e=0->t.size- a<n)/\(e=0->fi.length<=a/\cd.length<=a)/\((jm k=true->cd=[]/\C=hd0)/\(jm k=false->fi=[]/\F=hd0))/\
  LS w g gp t {p with filters:=fi,codes:=cd} {h with filters:=F,codes:=C} a e wr/\iE w wr fi F/\lR w wr cd C)
 case atStart=>exact⟨a0,e0,[],[],hd0,hd0,bj.o,λ_=>by omega,λ_=>⟨ag _,ag _⟩,⟨λ_=>⟨rfl,rfl⟩,λ_=>⟨rfl,rfl⟩⟩,L0.o,dD _ _ _ _,dD _ _ _ _⟩
 case round=>
  obtain⟨a,e,fi,cd,F,C,hl,bg,aO,aP,hI,hF,hC⟩:=hrel;have aA:=aa aP;clear aP
  have V:=aa hl;have az:=aa bg;have H:=aa aO;have I:=aa hI;have OF:=aa hF;have OC:=aa hC
  clear hl bg aO hI hF hC;go_wp2_with fail;refine Yg (dG g a t e _ I.o.cur) λw1 bA=>?_;subst bA;by_cases he:e=0;rotate_left
  ·have e1:(e==0)=false:=ar.2 he;have HX:Hid (aI=(fi,cd,a,e)):=aa (by rw[<-V.o,Es he]);clear he;go_wp2;rw[Exit.noGoto_normal]
   go_end0
   exact⟨rfl,F,C,fi,cd,a,e,HX.o,I.o,OF.o,OC.o⟩
  subst he;obtain⟨n,rfl⟩:∃n,gk=n+1:=⟨gk- 1,by have:=az.o (by first| rfl| trivial);omega⟩;rw[qn]at V;go_wp2_with fail;refine Yg (eI g a t 0 _ I.o.cur) λw1 A=>?_;have E:=aa (I.o.below A);have an:Hid (iE w w1 fi F):=aa (dV OF.o A);have aF:Hid (lR w w1 cd C):=aa (dV OC.o A)
  clear A I OF OC;by_cases hz:t.size<=a
  ·have e2:(((t.size- a:Nat):Int)==0)=true:=aK.2 (by omega);have HX:Hid (aI=(fi,cd,a,0)):=aa (by rw[<-V.o,if_pos (.inr hz)]);clear hz;go_wp2;rw[Exit.noGoto_normal]
   go_end0
   exact⟨rfl,F,C,fi,cd,a,0,HX.o,E.o,an.o,aF.o⟩
  have e2:(((t.size- a:Nat):Int)==0)=false:=ar.2 (by omega);have D:Hid (a<t.size):=aa (by omega);clear hz;have kk:=(E.o.pk.cell 0).trans (cI _ _);simp only[a5.o]at kk;go_wp2_with fail;refine Yg (nK k _) λw2 bB=>?_;subst bB;cases L:jm k
  ·have M:=aa L;clear L;have j:=V.o;rw[Fl (λx=>by have:=D.o;rcases x with x| x<;>omega),Fl (by rw[M.o];decide)]at j
   replace j:=aa j
   clear V;obtain⟨y,hy⟩:∃y,(ls t).drop a=y :: (ls t).drop (a+1):=⟨_,bQ (by rw[aN];exact D.o)⟩;have HY:=aa (tf hy);have aC:Hid ((aH t a 0 1).2.1=a+1/\(aH t a 0 1).2.2=0):=aa (by
    have:aH t a 0 1=(t.extract a (a+1),a+1,0):=dZ (k:=1) D.o;rw[this];exact⟨rfl,rfl⟩)
   have bZ:IntKind.i64.wrap (y.toNat:Int)=(y.toNat:Int):=by have:=y.toNat_lt;rw[aQ];omega
   clear hy kk;have a6:Hid (cd.length<=1000000000000):=aa (by have:=(H.o (by first| rfl| trivial)).2;have:=D.o;have:=HT.o;omega);have b:w1.cell? ⟨gp,22,none⟩=some (.slice C.a cd.length C.c):=(E.o.pk.cell 22).trans (bS _ _);go_wp2_with fail;refine je (λw'=>w'.cell? ⟨gp,22,none⟩=some (.slice C.a cd.length C.c)) [10] (by kernel_rfl) ?_
   replace b:w1.drew.cell? ⟨gp,22,none⟩=some (.slice C.a cd.length C.c):=b
   refine Yi 0 [10] rfl b ?_;refine Yi 1 [10] rfl b ?_;refine Yi 2 [10] rfl b ?_;refine Yi 3 [10] rfl b ?_;refine Yi 4 [10] rfl b ?_;refine Yi 5 [10] rfl b ?_;refine Up 6 rfl (λK l=>?_);go_simp;go_at_call 157;refine(dR g a t 0 1 _ (E.o.drewN 1).cur (by decide)).mono ?_;rintro e' y1 ⟨rfl,hc,r⟩;rw[aC.o.1,aC.o.2]at hc;have J1:=aa ((E.o.drewN 1).turn hc r);have P1:Hid (lR w y1 cd C):=aa ((show lR w (w1.drewN 1) cd C from aF.o).stay r E.o.ne.1);have T1:Hid (iE w y1 fi F):=aa ((show iE w (w1.drewN 1) fi F from an.o).stay r E.o.ne.1);clear hc r b;have b:=(J1.o.pk.cell 22).trans (bS _ _);simp only at b;rw[HY.o];go_simp;refine l.out _ _ (λ_=>b) ?_;clear l K;refine Yi 7 [10] rfl b ?_;refine Up 8 rfl (λK l=>?_);go_simp;have W:=aa (J1.o.alloc (.cells #[.int .i64 (y.toNat:Int)] 3));have P2:=aa (jh P1.o (.cells #[.int .i64 (y.toNat:Int)] 3));have T2:=aa (jh T1.o (.cells #[.int .i64 (y.toNat:Int)] 3));clear b;have b:=(W.o.pk.cell 22).trans (bS _ _);simp only at b;refine l.out _ _ (λ_=>b) ?_;clear l K;refine Up 9 rfl (λK l=>?_);refine mS rfl (.tmp 28) (.tmp 32) 27 rfl w.heap.size 3 _ 1 8 underlying27 Cw rfl (by decide) (.slice C.a cd.length C.c) _ _ rfl P2.o _ _ 1 1 [.int .i64 (y.toNat:Int)] rfl (Rd.lit _ _ _ rfl (ed _) rfl) (by intro u hu;simp at hu;subst hu;rfl) (by have:=a6.o;unfold maxLen;omega) (by have:=a6.o;omega) W.o.mods.size ?_;intro v' y3 B hg bw;obtain⟨A',c',rfl,Y,aT⟩:=jK B;have J:=aa (W.o.grown hg (λq hq=>(cX P2.o q hq).1));clear Y aT b;have b:=(J.o.pk.cell 22).trans (bS _ _);simp only at b;refine l.out _ _ (λ_=>b) ?_;clear l K;refine Up 10 rfl (λK l=>?_);go_simp;refine l.out _ _ (λhn=>absurd (hn 10 (by simp)) (by decide)) (mc (d:=10) (by simp) _ _ _ _ (by kernel_rfl) ?_);have bV:=b;have bX:=J.o.pk.free 22;clear l K b;refine Yj 11 rfl ?_;refine Uq 12 rfl (λK l=>?_);go_simp;refine l.out _ _ ?_;clear l K;refine QB (by kernel_rfl) ?_ _;go_wp2
   go_roundg n
   case measure=>omega
   case rel=>
    obtain⟨G,S⟩:=aA.o.2 M.o;refine⟨a+1,0,fi,cd++[(y.toNat:Int)],F,⟨A',c'⟩,?_,λ_=>by have:=az.o (by first| rfl| trivial);have:=D.o;omega,λ_=>?_,⟨λh=>(by rw[M.o]at h;cases h),λ_=>⟨G,S⟩⟩,J.o.put 22 _ (Aq {p with filters:=fi} {h with filters:=F} cd y.toNat A' c' C),?_,lR.snoc B _ J.o.ne.2.1⟩
    ·have:=j.o;rw[HY.o]at this;exact this
    ·have h1:=H.o (by first| rfl| trivial);rw[List.length_append];exact⟨by omega,by simp;omega⟩
    ·rw[G,S];exact dD _ _ _ _
  focus
   have M:=aa L;clear L;have j:=V.o;rw[Fl (λx=>by have:=D.o;rcases x with x| x<;>omega),if_pos M.o]at j
   replace j:=aa j
   have a8:Hid (fi.length<=1000000000000):=aa (by have:=(H.o (by first| rfl| trivial)).1;have:=D.o;have:=HT.o;omega);have aM:k=8\/k=10:=aR (show decide (k=8\/k=10)=true from M.o);have bU:=aa aM;have s:=aa (λh0=>vA (v:=v) (t:=t) aM (pf D.o) h0);clear V kk aM;go_wp2_with fail;refine Yg (jG g a t 0 _ E.o.cur) λw2 A=>?_;have I2:=aa (E.o.below A);have a9:Hid (iE w w2 fi F):=aa (dV an.o A)
   clear A E an aF;go_wp2_with fail;refine Yg (rO (t.extract a t.size) _ (by rw[rJ];have:=HT.o;omega)) λw3 A=>?_;have I3:=aa (I2.o.below A);have ba:Hid (iE w w3 fi F):=aa (dV a9.o A)
   clear A I2 a9;have aj:=aa (DV (t:=t) (a:=a) (pf D.o));have O:Hid (rtC t a 0=((ab0 (t.extract a t.size)).1,a+(ab0 (t.extract a t.size)).2.1,(ab0 (t.extract a t.size)).2.2)):=aa (Fl (λx=>x rfl));obtain⟨U,hU⟩:∃U,ab0 (t.extract a t.size)=U:=⟨_,rfl⟩;rw[hU]at aj O⊢;clear hU;obtain⟨T,m,x⟩:=U;simp only at aj O⊢;rw[O.o]at aj;go_wp2_with fail;refine(cB g a t 0 x _ I3.o.cur).mono ?_;rintro e' w4 ⟨rfl,hc,r⟩;rw[if_pos rfl]at hc;have I4:=aa (I3.o.turn hc r);have bb:Hid (iE w w4 fi F):=aa (ba.o.stay r I3.o.ne.1)
   clear hc r I3 ba;go_wp2_with fail;refine(eo g a t x (m:Int) _ I4.o.cur).mono ?_;rintro e' i ⟨rfl,hc,r⟩;rw[aj.o]at hc;have I5:=aa (I4.o.turn hc r);have bc:Hid (iE w i fi F):=aa (bb.o.stay r I4.o.ne.1)
   clear hc r I4 bb;have I6:=aa (I5.o.alloc (.cells (dI ⟨T,0,false,false,0⟩) 49));have ao:Hid (iE w (i.alloc (.cells (dI ⟨T,0,false,false,0⟩) 49)) fi F):=aa (jh bc.o _);have K6:=aa (Bk.fresh i 49 (dI ⟨T,0,false,false,0⟩));have a4:Hid (w.heap.size<=i.heap.size):=aa I5.o.mods.size;have kk:(i.alloc (.cells #[.string T,.int .i64 0,.bool false,.bool false,.int .i64 0] 49)).cell? ⟨gp,0,none⟩=some (.int .i64 k):=(I6.o.pk.cell 0).trans ((cI _ _).trans (by rw[<-a5.o]));have bd:Hid (∀q,(Value.slice F.a fi.length F.c).ownBlock=some q->q<i.heap.size):=aa λq hq=>(cX bc.o q hq).2;by_cases h8:k=8
   focus
    have e8:(k==8)=true:=aK.2 h8;have N:Hid (fiR v k t a=(vB T (opR v t (a+m) x).1,(opR v t (a+m) x).2.1,(opR v t (a+m) x).2.2)):=aa (by unfold fiR;rw[if_pos h8,O.o]);clear h8;go_wp2_with fail;refine(wN v HV.o g (a+m) t x i.heap.size T _ I6.o.cur K6.o (by have:=I5.o.ne;have:=a4.o;omega)).mono ?_;rintro e' o ⟨rfl,hc,bh,r⟩;have P:=aa (I6.o.opt hc r a4.o);have ap:Hid (iE w o fi F):=aa (ao.o.opt r I5.o.ne.1 bd.o);have z:=aa bh;clear hc r bh I6 ao K6 kk;rw[N.o]at j s;obtain⟨f,Z⟩:∃f,vB T (opR v t (a+m) x).1=f:=⟨_,rfl⟩;rw[Z]at z j s;generalize (opR v t (a+m) x).2.1=a7 at*;generalize (opR v t (a+m) x).2.2=e7 at*;clear Z N;simp only at j s;have q0:=z.o.cell 0;have q1:=z.o.cell 1;have q2:=z.o.cell 2;have q3:=z.o.cell 3;have q4:=z.o.cell 4
    simp only[dI,ay,aE,aB]at q0 q1 q2 q3 q4;have b:o.cell? ⟨gp,23,none⟩=some (.slice F.a fi.length F.c)/\o.cell? ⟨i.heap.size,0,none⟩=some (.string f.topic)/\o.cell? ⟨i.heap.size,1,none⟩=some (.int .i64 f.qos)/\o.cell? ⟨i.heap.size,2,none⟩=some (.bool f.noLocal)/\o.cell? ⟨i.heap.size,3,none⟩=some (.bool f.asPub)/\o.cell? ⟨i.heap.size,4,none⟩=some (.int .i64 f.handling):=⟨(P.o.pk.cell 23).trans (bP _ _),q0,q1,q2,q3,q4⟩;clear q0 q1 q2 q3 q4;go_wp2_with fail
   rotate_left
   focus
    have e8:(k==8)=false:=ar.2 h8;have N:Hid (fiR v k t a=(⟨T,0,false,false,0⟩,a+m,x)):=aa (by unfold fiR;rw[Fl h8,O.o]);clear h8;rw[N.o]at j s;simp only at j s;obtain⟨f,Z⟩:∃f:Fi,⟨T,0,false,false,0⟩=f:=⟨_,rfl⟩;rw[Z]at K6 j s;have P:=I6;have ap:=ao;have z:=K6
    clear I6 ao K6 N;obtain⟨a7,be⟩:∃a7,a+m=a7:=⟨_,rfl⟩;rw[be]at P j s;obtain⟨e7,bf⟩:∃e7,x=e7:=⟨_,rfl⟩;rw[bf]at P j s;clear be bf;go_wp2_with fail;rw[Z]at ap P;clear kk;obtain⟨o,aU⟩:∃o,i.alloc (.cells #[.string T,.int .i64 0,.bool false,.bool false,.int .i64 0] 49)=o:=⟨_,rfl⟩;have bi:i.alloc (.cells (dI f) 49)=o:=by rw[<-Z];exact aU
    rw[bi]at P ap z;rw[aU];clear aU bi Z;have q0:=z.o.cell 0;have q1:=z.o.cell 1;have q2:=z.o.cell 2;have q3:=z.o.cell 3;have q4:=z.o.cell 4
    simp only[dI,ay,aE,aB]at q0 q1 q2 q3 q4;have b:o.cell? ⟨gp,23,none⟩=some (.slice F.a fi.length F.c)/\o.cell? ⟨i.heap.size,0,none⟩=some (.string f.topic)/\o.cell? ⟨i.heap.size,1,none⟩=some (.int .i64 f.qos)/\o.cell? ⟨i.heap.size,2,none⟩=some (.bool f.noLocal)/\o.cell? ⟨i.heap.size,3,none⟩=some (.bool f.asPub)/\o.cell? ⟨i.heap.size,4,none⟩=some (.int .i64 f.handling):=⟨(P.o.pk.cell 23).trans (bP _ _),q0,q1,q2,q3,q4⟩;clear q0 q1 q2 q3 q4
   rotate_left
  rotate_left 2
  all_goals
   refine je (λw'=>w'.cell? ⟨gp,23,none⟩=some (.slice F.a fi.length F.c)/\w'.cell? ⟨i.heap.size,0,none⟩=some (.string f.topic)/\w'.cell? ⟨i.heap.size,1,none⟩=some (.int .i64 f.qos)/\w'.cell? ⟨i.heap.size,2,none⟩=some (.bool f.noLocal)/\w'.cell? ⟨i.heap.size,3,none⟩=some (.bool f.asPub)/\w'.cell? ⟨i.heap.size,4,none⟩=some (.int .i64 f.handling)) [8] (by kernel_rfl) ?_
   replace b:o.drew.cell? ⟨gp,23,none⟩=some (.slice F.a fi.length F.c)/\o.drew.cell? ⟨i.heap.size,0,none⟩=some (.string f.topic)/\o.drew.cell? ⟨i.heap.size,1,none⟩=some (.int .i64 f.qos)/\o.drew.cell? ⟨i.heap.size,2,none⟩=some (.bool f.noLocal)/\o.drew.cell? ⟨i.heap.size,3,none⟩=some (.bool f.asPub)/\o.drew.cell? ⟨i.heap.size,4,none⟩=some (.int .i64 f.handling):=b
   refine Yi 0 [8] rfl b ?_;refine Yi 1 [8] rfl b ?_;refine Yi 2 [8] rfl b ?_;refine Yi 3 [8] rfl b ?_;refine Yi 4 [8] rfl b ?_;refine Yi 5 [8] rfl b ?_;have J1:=aa (P.o.drewN 1);have P1:Hid (iE w o.drew fi F):=aa ap.o;have K8:Hid (Bk o.drew i.heap.size 49 (dI f)):=aa z.o;refine Up 6 rfl (λK l=>?_);go_simp;have W:=aa (J1.o.alloc (.cells #[.string f.topic,.int .i64 f.qos,.bool f.noLocal,.bool f.asPub,.int .i64 f.handling] 49));have P2:=aa (jh P1.o (.cells #[.string f.topic,.int .i64 f.qos,.bool f.noLocal,.bool f.asPub,.int .i64 f.handling] 49));have K9:=aa (K8.o.alloc (.cells #[.string f.topic,.int .i64 f.qos,.bool f.noLocal,.bool f.asPub,.int .i64 f.handling] 49));clear b;have b:=And.intro ((W.o.pk.cell 23).trans (bP _ _)) (And.intro (K9.o.cell 0) (And.intro (K9.o.cell 1) (And.intro (K9.o.cell 2) (And.intro (K9.o.cell 3) (K9.o.cell 4)))));simp only[dI,ay,aE,aB]at b;refine l.out _ _ (λ_=>b) ?_;clear l K;refine Up 7 rfl (λK l=>?_);refine mS rfl (.tmp 63) (.tmp 65) 28 rfl w.heap.size 49 _ 5 40 underlying28 oP rfl (by decide) (.slice F.a fi.length F.c) _ _ rfl P2.o _ _ 1 1 (fiC f) rfl (Bv _ f) (yG f) (by have:=a8.o;unfold maxLen;omega) (by have:=a8.o;omega) W.o.mods.size ?_;intro v' y3 B hg bw;obtain⟨A',c',rfl,Y,aT⟩:=jK B;have J:=aa (W.o.grown hg (λq hq=>(cX P2.o q hq).1));have Q:=aa (vV hg K9.o (λe=>by have h2:=bd.o _ e;omega));clear Y aT b;have b:=And.intro ((J.o.pk.cell 23).trans (bP _ _)) (And.intro (Q.o.cell 0) (And.intro (Q.o.cell 1) (And.intro (Q.o.cell 2) (And.intro (Q.o.cell 3) (Q.o.cell 4)))));simp only[dI,ay,aE,aB]at b;refine l.out _ _ (λ_=>b) ?_;clear l K;refine Up 8 rfl (λK l=>?_);go_simp;refine l.out _ _ (λhn=>absurd (hn 8 (by simp)) (by decide)) (mc (d:=8) (by simp) _ _ _ _ (by kernel_rfl) ?_);have bW:=b.1;have bY:=J.o.pk.free 23;clear l K b;refine Yj 9 rfl ?_;refine Uq 10 rfl (λK l=>?_);go_simp;refine l.out _ _ ?_;clear l K;refine QB (by kernel_rfl) ?_ _;go_wp2
   go_roundg n
   case measure=>omega
   case rel=>
    obtain⟨G,S⟩:=aA.o.1 M.o;refine⟨a7,e7,fi++[f],cd,⟨A',c'⟩,C,j.o,λh0=>(by obtain⟨b1,b2,b3⟩:=s.o h0;have:=az.o (by first| rfl| trivial);have:=D.o;omega),λh0=>?_,⟨λ_=>⟨G,S⟩,λh=>(by rw[M.o]at h;cases h)⟩,J.o.put 23 _ (aal {p with codes:=cd} {h with codes:=C} fi f A' c' F),iE.snoc B _ J.o.ne.2.1,?_⟩
    ·obtain⟨b1,b2,b3⟩:=s.o h0;have h1:=H.o (by first| rfl| trivial);rw[List.length_append,G];exact⟨by simp;omega,ag _⟩
    ·rw[G,S];exact dD _ _ _ _
theorem Sn(h:a<=t.size):(rbC t a e).2.1<=t.size/\(rbC t a e).1.size<=65535:=by
 unfold rbC;split
 ·exact⟨h,ag _⟩
 ·have:=Bu (t.extract a t.size);rw[aj]at this;refine⟨by show a+(dJ (t.extract a t.size)).2.1<=t.size;omega,this.2⟩
theorem uD(h:a<=t.size):(rtC t a e).2.1<=t.size/\(rtC t a e).1.size<=65535:=by
 unfold rtC;split
 ·exact⟨h,ag _⟩
 ·have:=uq (t.extract a t.size);rw[aj]at this;refine⟨by show a+(ab0 (t.extract a t.size)).2.1<=t.size;omega,this.2⟩
theorem ti(v k:Int)(t:abO):∀(n a:Nat) (e:Int) (fi:List Fi) (cd:List Int),(lsR v k t n a e fi cd).1.length<=fi.length+n/\(lsR v k t n a e fi cd).2.1.length<=cd.length+n/\∀f∈(lsR v k t n a e fi cd).1,f∈fi\/f.topic.size<=65535
 | 0,a,e,fi,cd=>⟨ac _,ac _,λf hf=>.inl hf⟩
 | n+1,a,e,fi,cd=>by
   rw[qn];split
   ·exact⟨by show fi.length<=_;omega,by show cd.length<=_;omega,λf hf=>.inl hf⟩
   ·rename_i hc;have hlt:a<t.size:=Nat.lt_of_not_le λx=>hc (.inr x);split
    ·obtain⟨b,c,d⟩:=ti v k t n (fiR v k t a).2.1 (fiR v k t a).2.2 (fi++[(fiR v k t a).1]) cd;rw[List.length_append]at b;simp only[bM,eC]at b;refine⟨by omega,by omega,λf hf=>?_⟩;rcases d f hf with h| h
     ·rcases cj.1 h with h| h
      ·exact .inl h
      ·right;obtain rfl:=gA.1 h;have:=(uD (t:=t) (a:=a) (e:=0) (pf hlt)).2;unfold fiR;split
       ·exact this
       ·exact this
     ·exact .inr h
    ·obtain⟨b,c,d⟩:=ti v k t n (a+1) 0 fi (cd++[((br t a 0 1:Nat):Int)]);rw[List.length_append]at c;simp only[bM,eC]at c;exact⟨by omega,by omega,d⟩
theorem Ed(v k:Int)(t:abO)(a:Nat)(e:Int)(ht:t.size<=140737488351232):(∀p∈(fv v k t a e).1,qc p)/\(fv v k t a e).1.length<=1000:=by
 unfold fv;split
 ·exact⟨by simp,ag _⟩
 ·refine⟨iT (by rw[aj];omega),?_⟩;by_cases h:(aZ k (t.extract a t.size)).2.2=0
  ·exact kj h
  ·have:=fZ h;rw[this];exact ag _
theorem lU(hs:s.size<=140737488351000):PkOk (jj v k s):=by
 obtain⟨a,b,c⟩:=ti v k s (s.size+1) (lh v k s).2.1 (lh v k s).2.2 [] [];obtain⟨g,i⟩:=Ed v k s (aH s 0 0 2).2.1 (aH s 0 0 2).2.2 (by omega);refine⟨(by intro q e;cases e),g,λf d=>?_,?_,?_⟩
 ·rcases c f d with h| h
  ·cases h
  ·omega
 ·exact⟨ag _,ag _,ag _,ag _,ag _,ag _,ag _⟩
 ·simp only[eC]at a b;exact⟨ag _,by show(li v k s).2.1.length<=_;unfold li;omega,by show(li v k s).1.length<=_;unfold li;omega,by show(lh v k s).1.length<=_;unfold lh;omega⟩
theorem DY{y:abP}{B:Nat}{l:List Pr}{t1 t2:TypeId}{c1 c2:Array Value}{g1 g2:Nat}(h:Rd x B 4 A l.length (prs l))(b1:Bk x g1 t1 c1)(b2:Bk x g2 t2 c2)
  (n1:∀(i:Nat) (n:Int),c1[i]? ≠some (Value.int IntKind.u32 n))(n2:∀(i:Nat) (n:Int),c2[i]? ≠some (Value.int IntKind.u32 n))(hm:Mods (two g1 g2) x y)(hB:B<=x.heap.size):Rd y B 4 A l.length (prs l):=by
 rcases h.2 with f| ⟨b,o,rfl,g,k⟩
 ·exact⟨h.1,.inl f⟩
 ·by_cases m:0<l.length
  ·obtain⟨r,s,d,_,_,c,_⟩:=h.atP m;simp only[aX,Addr.mk.injEq]at d;obtain⟨rfl,rfl,-⟩:=d;refine⟨h.1,.inr ⟨b,o,rfl,g,λj u p=>(iG (a:=⟨b,o+j,none⟩) (hm.block b (by omega) (λe=>?_))).trans (k j u p)⟩⟩;rcases e with rfl| rfl
   ·rw[b1.cell]at c;exact n1 _ _ c
   ·rw[b2.cell]at c;exact n2 _ _ c
  ·have q:l=[]:=aF (by omega);subst q;exact Rd.nil _ _ _ _
structure SG (w wL:abP) (g gp gc:Nat) (k i:Int) (l:List Pr) (A:Option Addr) (n:Nat) (fi:List Fi) (cd:List Int) (F C:Hd) (t:abO) (a:Nat) (e:Int) (x:abP):Prop where
 kept:abQ w x
 res:Bk x g PkT (pkC pk0 hs0)
 pk:Bk x gp PkT (pkC {aP k i 0 l with filters:=fi,codes:=cd} {hs0 with props:=⟨A,n⟩,filters:=F,codes:=C})
 cur:Cur x gc t a e
 rd:Rd x x.heap.size 4 A l.length (prs l)
 cap:l.length<=n
 ofi:iE wL x fi F
 ocd:lR wL x cd C
 ne:g≠gp/\g≠gc/\gp≠gc
 base:w.heap.size<=g/\w.heap.size<=gp/\w.heap.size<=gc
 lt:g<wL.heap.size/\gp<wL.heap.size/\gc<wL.heap.size
section
variable {w wL x y:abP} {g gp gc:Nat} {k i:Int} {l:List Pr} {A:Option Addr} {n:Nat} {fi:List Fi} {cd:List Int} {F C:Hd} {t:abO} {a a':Nat} {e e':Int}
theorem iE.into(h:iE wL x fi F):Rd x x.heap.size 5 F.a fi.length (fis fi)/\fi.length<=F.c:=by
 obtain⟨A,c,b,d,e⟩:=jK h;simp only[Value.slice.injEq]at b;obtain⟨rfl,-,rfl⟩:=b;exact⟨e,d⟩
theorem lR.into(h:lR wL x cd C):Rd x x.heap.size 1 C.a cd.length (iv cd)/\cd.length<=C.c:=by
 obtain⟨A,c,b,d,e⟩:=jK h;simp only[Value.slice.injEq]at b;obtain⟨rfl,-,rfl⟩:=b;exact⟨e,d⟩
theorem SG.into(s:SG w wL g gp gc k i l A n fi cd F C t a e x):PkIn x x.heap.size {aP k i 0 l with filters:=fi,codes:=cd} {hs0 with props:=⟨A,n⟩,filters:=F,codes:=C}:=
 ⟨Rd.nil _ _ _ _,s.ocd.into.1,s.ofi.into.1,s.rd,ag _,s.ocd.into.2,s.ofi.into.2,s.cap⟩
theorem SG.below(s:SG w wL g gp gc k i l A n fi cd F C t a e x)(hb:abQ x y):SG w wL g gp gc k i l A n fi cd F C t a e y:=
 ⟨Yf s.kept hb,Yh s.res hb,Yh s.pk hb,s.cur.below hb,(s.rd.below hb).wider hb.size,s.cap,dV s.ofi hb,dV s.ocd hb,s.ne,s.base,s.lt⟩
theorem SG.turn(s:SG w wL g gp gc k i l A n fi cd F C t a e x)(hc:Cur y gc t a' e')(hm:x.grownBy y (some gc)):SG w wL g gp gc k i l A n fi cd F C t a' e' y:=
 ⟨dw s.kept hm s.kept.size s.base.2.2,s.res.mods (S:=λz=>z=gc) (qb hm rfl) s.ne.2.1,s.pk.mods (S:=λz=>z=gc) (qb hm rfl) s.ne.2.2,hc,
  (s.rd.other s.cur.1 (Yo _ _ _) hm (ac _)).wider hm.size,s.cap,s.ofi.stay hm s.lt.2.2,s.ocd.stay hm s.lt.2.2,s.ne,s.base,s.lt⟩
theorem SG.none(s:SG w wL g gp gc k i l A n fi cd F C t a e x):abQ w (dE x g pk0 hs0)/\Bk (dE x g pk0 hs0) g PkT (pkC pk0 hs0):=⟨YQ s.kept s.kept.size s.base.1 _ _,cO s.res _ _⟩
theorem SG.some(s:SG w wL g gp gc k i l A n fi cd F C t a e x)(P:Pk:={aP k i 0 l with filters:=fi,codes:=cd})(H:Hs:={hs0 with props:=⟨A,n⟩,filters:=F,codes:=C})(hP:P= {aP k i 0 l with filters:=fi,codes:=cd}:=by rfl)(hH:H= {hs0 with props:=⟨A,n⟩,filters:=F,codes:=C}:=by rfl):
  abQ w (dE x g P H)/\Bk (dE x g P H) g PkT (pkC P H)/\PkIn (dE x g P H) (dE x g P H).heap.size P H:=by
 subst hP hH;have b:=cJ x g {aP k i 0 l with filters:=fi,codes:=cd} {hs0 with props:=⟨A,n⟩,filters:=F,codes:=C};refine⟨YQ s.kept s.kept.size s.base.1 _ _,cO s.res _ _,?_⟩;exact⟨Rd.nil _ _ _ _,(s.ocd.stay b s.lt.1).into.1,(s.ofi.stay b s.lt.1).into.1,(s.rd.other s.res (dY _ _) b (ac _)).wider b.size,ag _,s.ocd.into.2,s.ofi.into.2,s.cap⟩
theorem uf{ai:Nat}{ei:Int}(s:RI w g gp gc k i 0 l A n t ai ei wL)(hL:LS wL gc gp t {aP k i 0 l with filters:=fi,codes:=cd} {{hs0 with props:=⟨A,n⟩}with filters:=F,codes:=C} a e x)(hF:iE wL x fi F)(hC:lR wL x cd C):SG w wL g gp gc k i l A n fi cd F C t a e x:=
 ⟨hL.mods.below s.kept s.kept.size (λq b=>by rcases b with rfl| rfl;exact s.base.2.2;exact s.base.2.1),s.res.mods hL.mods (λh=>by rcases h with h| h;exact s.ne.2.1 h;exact s.ne.1 h),hL.pk,hL.cur,
  (DY s.rd s.cur.1 s.pk (Yo _ _ _) (dY _ _) hL.mods (ac _)).wider hL.mods.size,s.cap,hF,hC,s.ne,s.base,s.res.lt,s.pk.lt,s.cur.lt⟩
end
theorem Bs{gc:Nat}{i:Int}{l:List Pr}{A':Option Addr}{n':Nat}{l':List Pr}(s:RI w g gp gc k i 0 l A n t a e x)(hr:Rd x x.heap.size 4 A' l'.length (prs l'))(hc:l'.length<=n'):
  RI w g gp gc k i 0 l' A' n' t a e (x.setCell ⟨gp,24,none⟩ (.slice A' l'.length n')):=by
 have b:=YR x gp 24 (.slice A' l'.length n');exact⟨dw s.kept b s.kept.size s.base.2.1,s.res.other (by have:=s.ne.1;simpa using this) _,s.pk.upd 24 _ rfl,⟨s.cur.1.other (by have:=s.ne.2.2;simpa using this.symm) _,s.cur.2⟩,
  (hr.other s.pk (dY _ _) b (ac _)).wider b.size,hc,s.ne,s.base⟩
def qT(r:Pk×Int)(w:abP)(e:Ending)(w':abP):Prop:=∃h,e= .returned (.tuple #[pkV r.1 h,.int .i64 r.2])/\PkIn w' w'.heap.size r.1 h/\abQ w w'/\(∀b o,h.codes.a=some ⟨b,o,none⟩->w.heap.size<=b)
theorem kN{r:Pk×Int}{x:Int}{w':abP}(h:r=(pk0,x))(hb:abQ w w'):qT r w (.returned (.tuple #[pkV pk0 hs0,.int .i64 x])) w':=by
 subst h;exact⟨hs0,rfl,wM _ _,hb,λb o e=>by cases e⟩
theorem nR{r:Pk×Int}{h:Hs}{w':abP}(hr:r=(p,0))(hi:PkIn w' w'.heap.size p h)(hb:abQ w w')(hf:∀b o,h.codes.a=some ⟨b,o,none⟩->w.heap.size<=b):qT r w (.returned (.tuple #[pkV p h,.int .i64 0])) w':=by
 subst hr;exact⟨h,rfl,hi,hb,hf⟩
theorem SG.fresh{wL:abP}{gc:Nat}{i:Int}{l:List Pr}{fi:List Fi}{cd:List Int}{C:Hd}(s:SG w wL g gp gc k i l A n fi cd F C t a e x):∀b o,C.a=Option.some ⟨b,o,Option.none⟩->w.heap.size<=b:=λb o h=>by
 have c:=(cX s.ocd b (by rw[h];rfl)).1;have d:=s.base.1;have f:=s.lt.1;omega
theorem ud(v k:Int)(s:abO)(w:abP)(hs:s.size<=1000000000000):
  Calls prog 105 #[.int .i64 v,.int .i64 k,.string s] w (qT (sbR v k s) w):=by
 have HS:=aa hs;have an:=aa ((aq w.heap.size w).alloc (ac _) (.cells (pkC pk0 hs0) PkT));have am:=aa (Bk.fresh w PkT (pkC pk0 hs0));have aL:=aW am.o;go_enter func105,ntmps105;go_wp2_with fail;refine Yg (oI v k _) λw1 bj=>?_;subst bj;cases hk:ir v k
 ·have HX:Hid (sbR v k s=(pk0,2)):=aa (by unfold sbR;rw[if_pos hk]);clear hk;go_wp2;refine abZ (aI rfl _ rfl (cO am.o _ _)) rfl ?_;exact kN HX.o (YQ an.o an.o.size (ac _) _ _)
 have HK:=aa hk;have a3:v=4\/v=5:=(aR (show decide ((v=4\/v=5)/\8<=k/\k<=11)=true from hk)).1;have HV:=aa a3;clear hk aL;go_wp2_with fail;refine(jL s _ (by have:=HS.o;omega)).mono ?_;rintro e w1 ⟨rfl,g,r⟩;have a4:(w.alloc (.cells (pkC pk0 hs0) PkT)).heap.size=w.heap.size+1:=by simp
 have au:=aa (Yf an.o r);have aT:=aa (Yh am.o r)
 rw[a4]at g⊢;have aV:=aa g;clear g r a4;go_wp2_with fail;refine(dR (w.heap.size+1) 0 s 0 2 _ aV.o (by decide)).mono ?_;rintro e L ⟨rfl,g,i⟩;have av:=aa (dw au.o i au.o.size (by omega));have aU:=aa (aT.o.mods (S:=λz=>z=w.heap.size+1) (qb i rfl) (by omega));have H:=aa g
 have HZ:=aa H.o.lt;have a5:=gU s 0 0 (by omega);obtain⟨m,aJ⟩:∃m,br s 0 0 2=m:=⟨_,rfl⟩;rw[aJ]at a5⊢;have aX:=aa aJ;obtain⟨TK,aD⟩:∃T,aH s 0 0 2=T:=⟨_,rfl⟩;have U:Hid (lh v k s=fv v k s TK.2.1 TK.2.2):=aa (by unfold lh;rw[aD]);rw[aD]at H;clear g i aJ aD;obtain⟨T0,a,N⟩:=TK;simp only at U H;obtain⟨G,aG⟩:∃G:Int,G=(m:Int):=⟨_,rfl⟩;have hw:IntKind.i64.wrap (m:Int)=G:=by rw[aG,aQ];omega
 have HM:Hid (G=(m:Int)):=aa aG;clear a5 aG;have u:Hid (RI w w.heap.size L.heap.size (w.heap.size+1) k G 0 [] none 0 s a N (L.alloc (.cells (pkC (aP k G 0 []) hs0) PkT))):=aa
  ⟨av.o.alloc av.o.size _,aU.o.alloc _,Bk.fresh _ _ _,⟨H.o.1.alloc _,H.o.2⟩,Rd.nil _ _ _ _,ac _,⟨by have:=HZ.o;omega,by omega,by have:=HZ.o;omega⟩,ac _,by have:=HZ.o;omega,by omega⟩
 have bd:Hid (a<=s.size):=aa H.o.2.1;clear av aU H au aT aV;rcases a3 with h4| h5
 ·have e5:(v==5)=false:=ar.2 (by omega);have t:Hid (lh v k s=([],a,N)):=aa (by rw[U.o];unfold fv;rw[if_pos (.inl h4)]);have J:Hid (∀q∈([]:List Pr),qc q):=aa (by simp);obtain⟨l,j⟩:∃l:List Pr,l=[]:=⟨_,rfl⟩;obtain⟨y,o⟩:∃y,y=a:=⟨_,rfl⟩;obtain⟨B,p⟩:∃B,B=N:=⟨_,rfl⟩;obtain⟨A,hA⟩:∃A:Option Addr,A=none:=⟨_,rfl⟩;obtain⟨n,hn⟩:∃n:Nat,n=0:=⟨_,rfl⟩;rw[<-j,<-o,<-p]at t;rw[<-j]at J
  replace u:Hid (RI w w.heap.size L.heap.size (w.heap.size+1) k G 0 l A n s y B (L.alloc (.cells (pkC (aP k G 0 []) hs0) PkT))):=by subst j o p hA hn;exact u
  clear h4 j o p hA hn;have aY:=aa (show ∀q∈l,qc q from J.o);go_wp2_with fail;refine(mB v (by first| exact HV.o| exact .inr rfl) k HK.o (w.heap.size+1) L.heap.size y s B (aP k G 0 l) {hs0 with props:=⟨A,n⟩} _ rfl u.o.cur u.o.pk (by have:=HZ.o;omega) HS.o).mono ?_;rintro D O ⟨rfl,F,C,f,d,a2,b,Q,hL,hF,hC⟩;have M:=aa (uf u.o hL hF hC);have Y:Hid (li v k s=(f,d,a2,b)):=aa (by unfold li;rw[t.o];exact Q);have X:Hid (jj v k s=jf k m l f d):=aa (by unfold jj;rw[Y.o,t.o,aX.o]);have Z:Hid (PkOk (jf k m l f d)):=aa (by rw[<-X.o];exact lU (by have:=HS.o;omega));have W:Hid (sbR v k s=if b≠0 then(pk0,b)else if sbE v (jf k m l f d)≠0 then(pk0,sbE v (jf k m l f d))else(jf k m l f d,0)):=aa (by
   unfold sbR;rw[Fl (by rw[HK.o];decide),Y.o,X.o])
  clear Q hL hF hC;rw[HM.o]at M;have j:(kZ (.pointer (some ⟨L.heap.size,0,none⟩))).run prog O= .ok (pkV (jf k m l f d) {hs0 with props:=⟨A,n⟩,filters:=F,codes:=C}) O:=cf M.o.pk;have I:Hid (PkIn O O.heap.size (jf k m l f d) {hs0 with props:=⟨A,n⟩,filters:=F,codes:=C}):=aa M.o.into;obtain⟨P,hP⟩:∃P,jf k m l f d=P:=⟨_,rfl⟩;rw[hP]at j I Z W;have ax:=aa hP;clear hP;go_wp2_with fail;refine Yg (lg v P _ _ I.o Z.o) λwV r=>?_;have G1:=aa (M.o.below r);clear r j I
  go_wp2_with fail;refine(cB _ a2 s b (sbE v P) _ G1.o.cur).mono ?_;rintro D wF ⟨rfl,g,i⟩;have h:=aa (G1.o.turn g i);clear g i
  have HW:Hid (((if b=0 then sbE v P else b)=0/\sbR v k s=(P,0))\/((if b=0 then sbE v P else b)≠0/\sbR v k s=(pk0,(if b=0 then sbE v P else b)))):=aa (by
   rw[W.o];by_cases c:b=0
   ·rw[if_pos c,Fl (λx=>x c)];by_cases V:sbE v P=0
    ·rw[Fl (λx=>x V)];exact .inl ⟨V,rfl⟩
    ·rw[if_pos V];exact .inr ⟨V,rfl⟩
   ·rw[Fl c,if_pos c];exact .inr ⟨c,rfl⟩)
  generalize (if b=0 then sbE v P else b)=E at*;go_wp2_with fail;refine Yg (dG _ a2 s E _ h.o.cur) λwH aM=>?_;subst aM;have j:=cf h.o.pk;have aL:=aW h.o.res;rcases HW.o with ⟨c,K⟩ | ⟨c,K⟩
  ·subst c;have HR:=aa K;clear K
   go_wp2;refine abZ (aI rfl _ rfl h.o.some.2.1) rfl ?_;exact nR (HR.o.trans (by rw[<-ax.o];rfl)) h.o.some.2.2 h.o.some.1 h.o.fresh
  ·have N:(E !=0)=true:=aA.2 c;have HR:=aa K;clear K c
   go_wp2;refine abZ (aI rfl _ rfl h.o.none.2) rfl ?_;exact kN HR.o h.o.none.1
 focus
  subst h5;go_wp2_with fail;refine Yg (dG _ a s N _ u.o.cur) λwE bk=>?_;subst bk;by_cases he:N=0;rotate_left
  focus
   have e9:(N==0)=false:=ar.2 he;have t:Hid (lh 5 k s=([],a,N)):=aa (by rw[U.o];unfold fv;rw[if_pos (.inr he)]);have J:Hid (∀q∈([]:List Pr),qc q):=aa (by simp);clear he;obtain⟨l,j⟩:∃l:List Pr,l=[]:=⟨_,rfl⟩;obtain⟨y,o⟩:∃y,y=a:=⟨_,rfl⟩;obtain⟨B,p⟩:∃B,B=N:=⟨_,rfl⟩;obtain⟨A,hA⟩:∃A:Option Addr,A=none:=⟨_,rfl⟩;obtain⟨n,hn⟩:∃n:Nat,n=0:=⟨_,rfl⟩;rw[<-j,<-o,<-p]at t;rw[<-j]at J
   replace u:Hid (RI w w.heap.size L.heap.size (w.heap.size+1) k G 0 l A n s y B (L.alloc (.cells (pkC (aP k G 0 []) hs0) PkT))):=by subst j o p hA hn;exact u
   clear j o hA hn p;have aY:=aa (show ∀q∈l,qc q from J.o);go_wp2_with fail;refine(mB 5 (by first| exact HV.o| exact .inr rfl) k HK.o (w.heap.size+1) L.heap.size y s B (aP k G 0 l) {hs0 with props:=⟨A,n⟩} _ rfl u.o.cur u.o.pk (by have:=HZ.o;omega) HS.o).mono ?_;rintro D O ⟨rfl,F,C,f,d,a2,b,Q,hL,hF,hC⟩;have M:=aa (uf u.o hL hF hC)
  rotate_left
  focus
   subst he;have af:Hid (lh 5 k s=((aZ k (s.extract a s.size)).1,a+(aZ k (s.extract a s.size)).2.1,(aZ k (s.extract a s.size)).2.2)):=aa (by rw[U.o];unfold fv;rw[Fl (by omega)]);have ay:=aa (iT (kind:=k) (s:=s.extract a s.size) (by rw[aj];have:=HS.o;omega));have az:Hid ((aH s a (aZ k (s.extract a s.size)).2.2 ((aZ k (s.extract a s.size)).2.1:Nat)).2=(a+(aZ k (s.extract a s.size)).2.1,(aZ k (s.extract a s.size)).2.2)):=aa (by
    by_cases hx:(aZ k (s.extract a s.size)).2.2=0
    ·have:=(fd (kind:=k) (s:=s.extract a s.size) (l:=(aZ k (s.extract a s.size)).1) (n:=(aZ k (s.extract a s.size)).2.1) (by rw[<-hx])).2.2;rw[aj]at this;have bt:=bd.o;rw[hx,dZ (by omega)]
    ·rw[fY hx,fZ hx];rfl)
   go_wp2_with fail;refine Yg (jG _ a s 0 _ u.o.cur) λw3 r=>?_;have I4:=aa (u.o.below r);clear r
   go_wp2_with fail;refine(Zf k (s.extract a s.size) _ (by rw[aj];have:=HS.o;omega)).mono ?_;rintro D w4 ⟨A,n,rfl,aE,a6,r⟩;have I5:=aa (I4.o.below r);have aB:=aa a6;have ae:=aa aE
   clear r a6 aE;obtain⟨R,hR⟩:∃R,aZ k (s.extract a s.size)=R:=⟨_,rfl⟩;rw[hR]at af ay az aB ae⊢;clear hR;obtain⟨l,z,x⟩:=R;simp only at af ay az aB ae⊢;go_wp2_with fail;refine(cB _ a s 0 x _ I5.o.cur).mono ?_;rintro D w5 ⟨rfl,g,i⟩;rw[if_pos rfl]at g;have bf:=aa ((aB.o.other I5.o.cur.1 (Yo _ _ _) i (ac _)).wider i.size);have I6:=aa (I5.o.turn g i);clear g i;go_wp2_with fail;refine(eo _ a s x (z:Int) _ I6.o.cur).mono ?_;rintro D w6 ⟨rfl,g,i⟩;rw[az.o]at g;have bg:=aa ((bf.o.other I6.o.cur.1 (Yo _ _ _) i (ac _)).wider i.size);have I7:=aa (I6.o.turn g i);clear g i;have I8:=aa (Bs I7.o bg.o ae.o);have bu:=(I7.o.pk.cell 24).trans (bR _ _);have bs:=I7.o.pk.free 24;have t:Hid (lh 5 k s=(l,a+z,x)):=af;have J:Hid (∀q∈l,qc q):=ay;obtain⟨y,o⟩:∃y,a+z=y:=⟨_,rfl⟩;obtain⟨B,p⟩:∃B,x=B:=⟨_,rfl⟩;rw[o,p]at t I8;clear o p;have aY:=aa (show ∀q∈l,qc q from J.o);go_wp2_with fail;refine(mB 5 (by first| exact HV.o| exact .inr rfl) k HK.o (w.heap.size+1) L.heap.size y s B (aP k G 0 l) {hs0 with props:=⟨A,n⟩} _ rfl I8.o.cur I8.o.pk (by have:=HZ.o;omega) HS.o).mono ?_;rintro D O ⟨rfl,F,C,f,d,a2,b,Q,hL,hF,hC⟩;have M:=aa (uf I8.o hL hF hC)
  rotate_left
 rotate_left 2
 all_goals
  have Y:Hid (li 5 k s=(f,d,a2,b)):=aa (by unfold li;rw[t.o];exact Q);have X:Hid (jj 5 k s=jf k m l f d):=aa (by unfold jj;rw[Y.o,t.o,aX.o]);have Z:Hid (PkOk (jf k m l f d)):=aa (by rw[<-X.o];exact lU (by have:=HS.o;omega));have W:Hid (sbR 5 k s=if b≠0 then(pk0,b)else if sbE 5 (jf k m l f d)≠0 then(pk0,sbE 5 (jf k m l f d))else(jf k m l f d,0)):=aa (by
   unfold sbR;rw[Fl (by rw[HK.o];decide),Y.o,X.o])
  clear Q hL hF hC;rw[HM.o]at M;have j:(kZ (.pointer (some ⟨L.heap.size,0,none⟩))).run prog O= .ok (pkV (jf k m l f d) {hs0 with props:=⟨A,n⟩,filters:=F,codes:=C}) O:=cf M.o.pk;have I:Hid (PkIn O O.heap.size (jf k m l f d) {hs0 with props:=⟨A,n⟩,filters:=F,codes:=C}):=aa M.o.into;obtain⟨P,hP⟩:∃P,jf k m l f d=P:=⟨_,rfl⟩;rw[hP]at j I Z W;have ax:=aa hP;clear hP;go_wp2_with fail;refine Yg (lg 5 P _ _ I.o Z.o) λwV r=>?_;have G1:=aa (M.o.below r);clear r j I
  go_wp2_with fail;refine(cB _ a2 s b (sbE 5 P) _ G1.o.cur).mono ?_;rintro D wF ⟨rfl,g,i⟩;have h:=aa (G1.o.turn g i);clear g i
  have HW:Hid (((if b=0 then sbE 5 P else b)=0/\sbR 5 k s=(P,0))\/((if b=0 then sbE 5 P else b)≠0/\sbR 5 k s=(pk0,(if b=0 then sbE 5 P else b)))):=aa (by
   rw[W.o];by_cases c:b=0
   ·rw[if_pos c,Fl (λx=>x c)];by_cases V:sbE 5 P=0
    ·rw[Fl (λx=>x V)];exact .inl ⟨V,rfl⟩
    ·rw[if_pos V];exact .inr ⟨V,rfl⟩
   ·rw[Fl c,if_pos c];exact .inr ⟨c,rfl⟩)
  generalize (if b=0 then sbE 5 P else b)=E at*;go_wp2_with fail;refine Yg (dG _ a2 s E _ h.o.cur) λwH aM=>?_;subst aM;have j:=cf h.o.pk;have aL:=aW h.o.res;rcases HW.o with ⟨c,K⟩ | ⟨c,K⟩
  ·subst c;have HR:=aa K;clear K
   go_wp2;refine abZ (aI rfl _ rfl h.o.some.2.1) rfl ?_;exact nR (HR.o.trans (by rw[<-ax.o];rfl)) h.o.some.2.2 h.o.some.1 h.o.fresh
  ·have N:(E !=0)=true:=aA.2 c;have HR:=aa K;clear K c
   go_wp2;refine abZ (aI rfl _ rfl h.o.none.2) rfl ?_;exact kN HR.o h.o.none.1
theorem MN(k:Int):∀l:List Fi,(l.flatMap (fiL k)).length<=ft l+3*l.length
 | []=>ac _
 | f :: l=>by
   have h:=MN k l;have b:(fiL k f).length<=f.topic.size+3:=by
    unfold fiL;rw[List.length_append,aN,eN];split
    ·simp
    ·simp
   have a:ft (f :: l)=f.topic.size+ft l:=by unfold ft;simp
   rw[YS,List.length_append,bM,a];omega
theorem JM(v k:Int)(l:List Pr):(gP v k l).length<=131075004:=by
 unfold gP;split
 ·simp
 ·by_cases h:(aM k l).2=0
  ·exact(G6 k l h).2
  ·rw[Ix k l h];simp
theorem Mu(v:Int)(h:Ie p=true):(sbS v p).length<=132000000:=by
 have c:=Mv h;unfold Ie at h;simp only[eh,Fx]at h;have a:=MN p.kind p.filters;have b:=JM v p.kind p.props;unfold sbS Bg cdL;simp only[List.length_append,eD,fM];omega
theorem Fo(hs:s.size<=140737488351000):PkOk (sbR v k s).1:=by
 have a:PkOk pk0:=iw (k:=0) (i:=0) (c:=0) (l:=[]) (by simp) (by simp);unfold sbR;split
 ·exact a
 ·split
  ·exact a
  ·split
   ·exact a
   ·exact lU hs
def chB(v:Int)(p:Pk):abO×Int:=
 if p.kind<=2 then Dm v p
 else if p.kind=3 then Gf v p
 else if p.kind<=7 then(⟨(Ga v p).1.toArray⟩,(Ga v p).2)
 else if p.kind<=11 then sbB v p
 else(⟨(Yq v p).1.toArray⟩,(Yq v p).2)
def chE(v:Int)(p:Pk):Int:=
 if p.kind<=2 then eR v p
 else if p.kind=3 then ii v p
 else if p.kind<=7 then eS v p
 else if p.kind<=11 then sbE v p
 else fH v p
def chR(v:Int)(h:Hdr)(s:abO):Pk×Int:=
 if h.k<=2 then iB v h.k s
 else if h.k=3 then km v h.f s
 else if h.k<=7 then iW v h.k s
 else if h.k<=11 then sbR v h.k s
 else gX v h.k s
def mqE(v:Int)(p:Pk):Int:=
 if YG v=false then 2
 else if dS v p.kind=false then 8
 else if chE v p≠0 then chE v p
 else if 268435455<(chB v p).1.size then 4 else 0
def mqF(p:Pk):Int:=if p.kind=3 then ke p else gg p.kind
def mqS(v:Int)(p:Pk):abO:=⟨(hdS p.kind (mqF p) (chB v p).1.size).toArray⟩++(chB v p).1
def mqB(v:Int)(p:Pk):abO×Int:=if mqE v p=0 then(mqS v p,0)else(⟨#[]⟩,mqE v p)
def mqR(v:Int)(s:abO):Pk×Nat×Int:=
 if(hdR v s).2.2≠0 then(pk0,0,(hdR v s).2.2)
 else if s.size<(hdR v s).2.1+(hdR v s).1.n then(pk0,0,3)
 else if(chR v (hdR v s).1 (s.extract (hdR v s).2.1 ((hdR v s).2.1+(hdR v s).1.n))).2=0 then((chR v (hdR v s).1 (s.extract (hdR v s).2.1 ((hdR v s).2.1+(hdR v s).1.n))).1,(hdR v s).2.1+(hdR v s).1.n,0)
 else(pk0,0,if(chR v (hdR v s).1 (s.extract (hdR v s).2.1 ((hdR v s).2.1+(hdR v s).1.n))).2=3 then 5 else(chR v (hdR v s).1 (s.extract (hdR v s).2.1 ((hdR v s).2.1+(hdR v s).1.n))).2)
theorem Wf(h:chE v p=0):(chB v p).2=0:=by
 unfold chE at h;unfold chB;split
 ·rename_i a;rw[if_pos a]at h;rw[og h]
 rename_i a;rw[Fl a]at h
 split
 ·rename_i b;rw[if_pos b]at h;unfold Gf;rw[if_pos h]
 rename_i b;rw[Fl b]at h
 split
 ·rename_i c;rw[if_pos c]at h;unfold Ga;rw[if_pos h]
 rename_i c;rw[Fl c]at h
 split
 ·rename_i d;rw[if_pos d]at h;unfold sbB;rw[if_pos h]
 rename_i d;rw[Fl d]at h
 unfold Yq;rw[if_pos h]
theorem Wa(h:chE v p≠0):chB v p=(⟨#[]⟩,chE v p):=by
 unfold chE at h⊢;unfold chB;split
 ·rename_i a;rw[if_pos a]at h;exact VJ h
 rename_i a;rw[Fl a]at h
 split
 ·rename_i b;rw[if_pos b]at h;unfold Gf;rw[Fl h]
 rename_i b;rw[Fl b]at h
 split
 ·rename_i c;rw[if_pos c]at h;unfold Ga;rw[Fl h]
 rename_i c;rw[Fl c]at h
 split
 ·rename_i d;rw[if_pos d]at h;unfold sbB;rw[Fl h]
 rename_i d;rw[Fl d]at h
 unfold Yq;rw[Fl h]
theorem Ol(h:mqE v p=0):YG v=true/\dS v p.kind=true/\chE v p=0/\(chB v p).1.size<=268435455:=by
 unfold mqE at h;split at h
 ·cases h
 rename_i b;split at h
 ·cases h
 rename_i c;split at h
 ·rename_i a;exact absurd h a
 rename_i a;split at h
 ·cases h
 rename_i d;exact⟨by simpa using b,by simpa using c,il.1 a,by omega⟩
theorem FD(h1:YG v=true)(h2:dS v p.kind=true)(h3:chE v p=0)(h4:(chB v p).1.size<=268435455):mqE v p=0:=by
 unfold mqE;rw[Fl (by rw[h1];decide),Fl (by rw[h2];decide),Fl (by rw[h3];decide),Fl (by omega)]
theorem Ma(h1:YG v=true)(h2:dS v p.kind=true)(h3:chE v p=0):eM v p=(mqF p,0)/\ff v p.kind (mqF p)=0:=by
 by_cases a:p.kind=3
 ·have d:ii v p=0:=by
   unfold chE at h3;rwa[Fl (by omega),if_pos a]at h3
  have c:=(zB d).flags;have b:mqF p=ke p:=if_pos a;refine⟨?_,Zc.2 ⟨h1,h2,?_⟩⟩
  ·unfold eM;rw[Fl (by rw[h1];decide),Fl (by rw[h2];decide),Fl (by omega),Fl (by rw[c];decide),b]
  ·rw[b,a,KO];exact(Ks c).1
 ·have b:mqF p=gg p.kind:=Fl a;refine⟨?_,Zc.2 ⟨h1,h2,?_⟩⟩
  ·unfold eM;rw[Fl (by rw[h1];decide),Fl (by rw[h2];decide),if_pos a,b]
  ·unfold eu;rw[Fl a,b];simp
theorem E7{x:Hdr}(hc:ff v x.k x.f=0)(h:chR v x s=(q,0)):chE v q=0/\(chB v q).1=s/\q.kind=x.k/\mqF q=x.f:=by
 obtain⟨-,-,m⟩:=Zc.1 hc;have g:x.k≠3->x.f=gg x.k:=λt=>by
  unfold eu at m;rw[Fl t]at m;exact aR m
 unfold chR at h;split at h
 ·rename_i o;obtain⟨a,b,c⟩:=Au h;have i:q.kind<=2:=by rw[c];exact o
  have e:¬q.kind=3:=by omega
  simp only[chE,chB,mqF,if_pos i,Fl e];exact⟨a,by rw[b],c,by rw[c];exact(g (by omega)).symm⟩
 rename_i o;split at h
 ·rename_i j;obtain⟨a,b,c⟩:=zy h;have e:=(zB a).kind;have i:¬q.kind<=2:=by omega
  simp only[chE,chB,mqF,Gf,if_pos e,Fl i,if_pos a];exact⟨a,b,by rw[e,j],c⟩
 rename_i j;split at h
 ·rename_i p;rcases AF v x.k s with ⟨a,b⟩ | ⟨a,b,c,d⟩
  ·rw[h]at b;exact absurd rfl b
  ·rw[h]at b c d;dsimp only at b c d;have i:¬q.kind<=2:=by omega
   have e:¬q.kind=3:=by omega
   have l:q.kind<=7:=by omega
   simp only[chE,chB,mqF,Ga,Fl e,Fl i,if_pos l,if_pos b.ok];exact⟨b.ok,by rw[d,Ck],c,by rw[c];exact(g j).symm⟩
 rename_i p;split at h
 ·rename_i r;obtain⟨a,b,c⟩:=Bf h;have i:¬q.kind<=2:=by omega
  have e:¬q.kind=3:=by omega
  have l:¬q.kind<=7:=by omega
  have n:q.kind<=11:=by omega
  simp only[chE,chB,mqF,sbB,Fl e,Fl i,Fl l,if_pos n,if_pos a];exact⟨a,by rw[b,Ck],c,by rw[c];exact(g j).symm⟩
 rename_i r;rcases An v x.k s with ⟨a,b⟩ | ⟨a,b,c,d⟩
 ·rw[h]at b;exact absurd rfl b
 ·rw[h]at b c d;dsimp only at b c d;have i:¬q.kind<=2:=by omega
  have e:¬q.kind=3:=by omega
  have l:¬q.kind<=7:=by omega
  have n:¬q.kind<=11:=by omega
  simp only[chE,chB,mqF,Yq,Fl e,Fl i,Fl l,Fl n,if_pos b.ok];exact⟨b.ok,by rw[d,Ck],c,by rw[c];exact(g j).symm⟩
theorem F7{x:Hdr}(hs:s.size<=1000000000000):PkOk (chR v x s).1:=by
 unfold chR;split
 ·exact EZ (by omega)
 split
 ·exact D9 (by omega)
 split
 ·exact Fb (by omega)
 split
 ·exact Fo (by omega)
 exact EO (by omega)
theorem Cg(v:Int)(p:Pk):ls (mqS v p)=hdS p.kind (mqF p) (chB v p).1.size++ls (chB v p).1:=by
 unfold mqS;rw[fe,jo]
theorem Cf(v:Int)(p:Pk):(mqS v p).size=(hdS p.kind (mqF p) (chB v p).1.size).length+(chB v p).1.size:=by
 rw[<-aN,Cg,List.length_append,aN]
theorem Em(v:Int)(p:Pk):2<=(mqS v p).size:=by
 rw[Cf];have:=EC p.kind (mqF p) (chB v p).1.size;omega
theorem Ci(h:mqR v s=(q,n,0)):mqE v q=0/\mqS v q=s.extract 0 n/\n<=s.size/\n=(mqS v q).size:=by
 unfold mqR at h;split at h
 ·rename_i b;simp only[bG]at h;exact absurd h.2.2 b
 rename_i b;split at h
 ·simp at h
 rename_i x;split at h
 ·rename_i c;simp only[bG]at h;obtain⟨rfl,rfl,-⟩:=h;obtain⟨b1,b2,e,m,w⟩:=kw (v:=v) (s:=s) (h:=(hdR v s).1) (a:=(hdR v s).2.1) (by rw[<-il.1 b]);generalize hdR v s=r at*;obtain⟨o,g,i,p⟩:=E7 (q:=(chR v r.1 (s.extract r.2.1 (r.2.1+r.1.n))).1) b1 (by rw[<-c]);generalize (chR v r.1 (s.extract r.2.1 (r.2.1+r.1.n))).1=q at*;obtain⟨t,u,-⟩:=Zc.1 b1;have l:(chB v q).1.size=r.1.n:=by
   rw[g,aj];omega
  have j:mqS v q=s.extract 0 (r.2.1+r.1.n):=by
   apply eX;rw[Cg,i,p,l,g,Ym];have:ls (s.extract 0 (r.2.1+r.1.n))=(ls s).take (r.2.1+r.1.n):=by
    have:=Ym s 0 (r.2.1+r.1.n);rwa[bV,Yl]at this
   rw[this];generalize ls s=X at*;rw[m]at e⊢;generalize hdS r.1.k r.1.f r.1.n=Y at*;rw[e,ot,bt (iX _ _),Nat.add_sub_cancel_left,List.drop_left]
  refine⟨FD t (by rw[i];exact u) o (by omega),j,by omega,?_⟩;rw[j,aj];omega
 ·rename_i c;simp only[bG]at h;obtain⟨-,-,d⟩:=h;split at d
  ·cases d
  ·exact absurd d c
theorem abe(hs:s.size<=1000000000000):PkOk (mqR v s).1:=by
 have a:PkOk pk0:=PkOk.zero 0 0 0;unfold mqR;split
 ·exact a
 split
 ·exact a
 split
 ·refine F7 ?_;rw[aj];omega
 ·exact a
theorem Ch(h:(mqR v s).2.2=0):2<=(mqR v s).2.1/\(mqR v s).2.1<=s.size:=by
 obtain⟨a,b,c,d⟩:=Ci (q:=(mqR v s).1) (n:=(mqR v s).2.1) (by rw[<-h]);have:=Em v (mqR v s).1;omega
def MV(v:Int)(p:Pk):Prop:=8<=p.kind/\p.kind<=11->(sbS v p).length<=140737488351232
theorem LD(v:Int)(h:Ie p=true):MV v p:=λ_=>aC (Mu v h) (by decide)
end
