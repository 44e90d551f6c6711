/- A part of what the laws stand on: SubF, Rtd, MSubG, SubJ. -/
import Derived.Test.YtbdgkkmbnahgiaaGreatDoorMxG0MSubP
import Derived.Deep.LoopGhost
set_option maxRecDepth 10000
set_option maxHeartbeats 8000000
namespace Go.Proofs.YtbdgkkmbnahgiaaGreatDoor
open Go.RowKit Go.Proofs.Tryz
section
attribute [local go_sem ↓] bD bF bH bI bu
attribute [local go_sem] bc aD bh bg bK bJ bd aY be aO ax cI dC dB dt dj di dA dr dp dn bW co bO bZ bX cz cy cw cu ct cC cn bS bP bR
theorem Mods.own{S:Nat->Prop}{w x y:World}{r:Option Nat}(h:Mods S w x)(hg:x.grownBy y r)(hr:∀k,r=some k->w.heap.size<=k):Mods S w y:=
 ⟨hg.os.trans h.os,hg.tape.trans h.tape,hg.output.trans h.output,aC h.size hg.size,fun i hi hs=>(hg.block i (ch hi h.size) (fun e=>by have:=hr i e.symm;omega)).trans (h.block i hi hs)⟩
structure LS (w:World) (g gp:Nat) (t:ByteArray) (q:Pk) (hq:Hs) (a:Nat) (e:Int) (x:World):Prop where
 cur:Cur x g t a e
 pk:Bk x gp PkT (pkC q hq)
 mods:Mods (two g gp) w x
 ne:g<w.heap.size/\gp<w.heap.size/\g≠gp
def iE(w x:World)(l:List Fi)(F:Hd):Prop:=x.ownsRow w.heap.size 32 5 (.slice F.a l.length F.c) l.length (fis l)
def lR(w x:World)(l:List Int)(C:Hd):Prop:=x.ownsRow w.heap.size 3 1 (.slice C.a l.length C.c) l.length (iv l)
section
variable {w x y:World} {g gp:Nat} {t:ByteArray} {q:Pk} {hq:Hs} {a a':Nat} {e e':Int}
theorem LS.drewN(s:LS w g gp t q hq a e x)(n:Nat):LS w g gp t q hq a e (x.drewN n):=⟨s.cur,s.pk,s.mods.drewN n,s.ne⟩
theorem LS.below(s:LS w g gp t q hq a e x)(hb:Below x.heap.size x y):LS w g gp t q hq a e y:=⟨s.cur.below hb,s.pk.below hb s.pk.lt,s.mods.trans (Mods.of_below hb),s.ne⟩
theorem LS.alloc(s:LS w g gp t q hq a e x)(o:Obj):LS w g gp t q hq a e (x.alloc o):=s.below ((aq _ _).alloc (ac _) o)
theorem LS.turn(s:LS w g gp t q hq a e x)(hc:Cur y g t a' e')(hm:x.grownBy y (some g)):LS w g gp t q hq a' e' y:=
 ⟨hc,s.pk.mods (S:=fun i=>i=g) (Mods.of_grown hm rfl) (fun e=>s.ne.2.2 e.symm),s.mods.trans (Mods.of_grown hm (.inl rfl)),s.ne⟩
theorem LS.grown(s:LS w g gp t q hq a e x){r:Option Nat}(hg:x.grownBy y r)(hr:∀k,r=some k->w.heap.size<=k):LS w g gp t q hq a e y:=
 ⟨⟨(hg.block g s.cur.lt (fun h=>by have:=hr g h.symm;have:=s.ne;omega)).trans s.cur.1,s.cur.2⟩,(hg.block gp s.pk.lt (fun h=>by have:=hr gp h.symm;have:=s.ne;omega)).trans s.pk,s.mods.own hg hr,s.ne⟩
theorem LS.put(s:LS w g gp t q hq a e x)(i:Nat)(u:Value){q':Pk}{hq':Hs}(hu:(pkC q hq).setIfInBounds i u=pkC q' hq'):LS w g gp t q' hq' a e (x.setCell ⟨gp,i,none⟩ u):=
 ⟨⟨s.cur.1.other (by have:=s.ne.2.2;simpa using this) _,s.cur.2⟩,s.pk.upd i u hu,s.mods.set gp i (.inl (.inr rfl)) _,s.ne⟩
theorem iE.stay{l:List Fi}{F:Hd}(h:iE w x l F)(hm:x.grownBy y (some g))(hg:g<w.heap.size):iE w y l F:=jg h (Mods.of_grown (S:=fun i=>i=g) hm rfl) (fun k hk e=>by have:=(cX h k hk).1;omega)
theorem lR.stay{l:List Int}{F:Hd}(h:lR w x l F)(hm:x.grownBy y (some g))(hg:g<w.heap.size):lR w y l F:=jg h (Mods.of_grown (S:=fun i=>i=g) hm rfl) (fun k hk e=>by have:=(cX h k hk).1;omega)
end
theorem lR.snoc{w x:World}{l:List Int}{A:Option Addr}{c:Nat}{y:Int}(h:x.ownsRow w.heap.size 3 1 (.slice A (l.length+1) c) (l.length+1) (iv l++[.int .i64 y])){g i:Nat}(u:Value)(hg:g<w.heap.size):lR w (x.setCell ⟨g,i,none⟩ u) (l++[y]) ⟨A,c⟩:=by
 have h1:lR w x (l++[y]) ⟨A,c⟩:=by
  unfold lR;rw[List.length_append]
  simpa [iv]using h
 exact h1.stay (cP x g i u) hg
theorem Aq(q:Pk)(hq:Hs)(l:List Int)(y:Int)(A:Option Addr)(c:Nat)(C:Hd):(pkC {q with codes:=l} {hq with codes:=C}).setIfInBounds 22 (.slice A (l.length+1) c)=pkC {q with codes:=l++[y]} {hq with codes:=⟨A,c⟩}:=by
 rw[show l.length+1=(l++[y]).length by simp];rfl
theorem LS.opt{w x y:World}{g gp gf:Nat}{t:ByteArray}{q:Pk}{hq:Hs}{a a':Nat}{e e':Int}(s:LS w g gp t q hq a e x)(hc:Cur y g t a' e')(hm:Mods (two g gf) x y)(hgf:w.heap.size<=gf):LS w g gp t q hq a' e' y:=by
 have h1:=s.ne;exact⟨hc,s.pk.mods hm (fun h=>by rcases h with h| h<;>omega),⟨hm.os.trans s.mods.os,hm.tape.trans s.mods.tape,hm.output.trans s.mods.output,aC s.mods.size hm.size,fun i hi hs=>
  (hm.block i (ch hi s.mods.size) (fun h=>by rcases h with h| h;exact hs (.inl h);omega)).trans (s.mods.block i hi hs)⟩,h1⟩
theorem iE.opt{w x y:World}{g gf:Nat}{l:List Fi}{F:Hd}(h:iE w x l F)(hm:Mods (two g gf) x y)(hg:g<w.heap.size)(hlt:∀q,(Value.slice F.a l.length F.c).ownBlock=some q->q<gf):iE w y l F:=
 jg h hm (fun k hk e=>by have h1:=(cX h k hk).1;have h2:=hlt k hk;rcases e with e| e<;>omega)
theorem CJ(l:List Fi)(f:Fi):fis (l++[f])=fis l++fiC f:=by simp[fis]
theorem iE.snoc{w x:World}{l:List Fi}{A:Option Addr}{c:Nat}{f:Fi}(h:x.ownsRow w.heap.size 32 5 (.slice A (l.length+1) c) (l.length+1) (fis l++fiC f)){g i:Nat}(u:Value)(hg:g<w.heap.size):iE w (x.setCell ⟨g,i,none⟩ u) (l++[f]) ⟨A,c⟩:=by
 have h1:iE w x (l++[f]) ⟨A,c⟩:=by
  unfold iE;rw[List.length_append,CJ];exact h
 exact h1.stay (cP x g i u) hg
theorem oT(q:Pk)(hq:Hs)(l:List Fi)(f:Fi)(A:Option Addr)(c:Nat)(F:Hd):(pkC {q with filters:=l} {hq with filters:=F}).setIfInBounds 23 (.slice A (l.length+1) c)=pkC {q with filters:=l++[f]} {hq with filters:=⟨A,c⟩}:=by
 rw[show l.length+1=(l++[f]).length by simp];rfl
theorem Bv(W:World)(f:Fi):Rd (W.alloc (.cells #[.string f.topic,.int .i64 f.qos,.bool f.noLocal,.bool f.asPub,.int .i64 f.handling] 32)) (W.heap.size+1) 5 (some ⟨W.heap.size,0,none⟩) 1 (fiC f):=by
 have h:=Rd.fresh W (dI f) 32;refine⟨rfl,?_⟩;rcases h.2 with h| h
 ·exact .inl h
 ·exact .inr h
theorem yG(f:Fi):∀u∈fiC f,u.oneCell'=true:=by
 intro u hu;simp[fiC]at hu;rcases hu with rfl| rfl| rfl| rfl| rfl<;>rfl
theorem qn(v k:Int)(t:ByteArray)(n a:Nat)(e:Int)(fi:List Fi)(cd:List Int):lsR v k t (n+1) a e fi cd=
  if e≠0\/t.size<=a then(fi,cd,a,e)
  else if jm k=true then lsR v k t n (fiR v k t a).2.1 (fiR v k t a).2.2 (fi++[(fiR v k t a).1]) cd
  else lsR v k t n (a+1) 0 fi (cd++[((br t a 0 1:Nat):Int)]):=rfl
theorem Es{v k:Int}{t:ByteArray}{n a:Nat}{e:Int}{fi:List Fi}{cd:List Int}(he:e≠0):lsR v k t n a e fi cd=(fi,cd,a,e):=by
 cases n with
 | zero=>rfl
 | succ n=>rw[qn,if_pos (.inl he)]
theorem wA{r:ByteArray}(h:(bL r).2.2≠0):(bL r).2.1=0:=by
 unfold bL dJ at h⊢;split
 ·rfl
 ·rename_i hc;rw[ae hc]at h;split
  ·rfl
  ·rename_i h1;rw[ae h1]at h;split
   ·rfl
   ·rename_i h2;rw[ae h2]at h;exact absurd rfl h
theorem DV{t:ByteArray}{a:Nat}(ha:a<=t.size):(aH t a (bL (t.extract a t.size)).2.2 ((bL (t.extract a t.size)).2.1:Nat)).2=((rtC t a 0).2.1,(rtC t a 0).2.2):=by
 have hR:rtC t a 0=((bL (t.extract a t.size)).1,a+(bL (t.extract a t.size)).2.1,(bL (t.extract a t.size)).2.2):=ae (fun x=>x rfl);have hle:=(uq (t.extract a t.size)).1;rw[rJ]at hle;rw[hR]
 by_cases hx:(bL (t.extract a t.size)).2.2=0
 ·rw[hx,dZ (by omega)]
 ·rw[fY hx,wA hx];rfl
theorem mB(v:Int)(hv:v=4\/v=5)(k:Int)(hk:ir v k=true)(g gp a0:Nat)(t:ByteArray)(e0:Int)(p:Pk)(h:Hs)(w:World)(hkp:p.kind=k)(hc:Cur w g t a0 e0)(hp:Bk w gp PkT (pkC {p with filters:=[],codes:=[]} {h with filters:=hd0,codes:=hd0}))(hne:g≠gp)(ht:t.size<=1000000000000):
  Calls prog 67 #[.int .i64 v,.pointer (some ⟨g,0,none⟩),.pointer (some ⟨gp,0,none⟩)] w fun e' w'=>
   e'= .returned (.tuple #[])/\∃F C fi cd a e,lsR v k t (t.size+1) a0 e0 [] []=(fi,cd,a,e)/\LS w g gp t {p with filters:=fi,codes:=cd} {h with filters:=F,codes:=C} a e w'/\iE w w' fi F/\lR w w' cd C:=by
 have L0:Hid (LS w g gp t {p with filters:=[],codes:=[]} {h with filters:=hd0,codes:=hd0} a0 e0 w):=aa ⟨hc,hp,Mods.refl _,hc.lt,hp.lt,hne⟩;have HK:=aa hk;have HV:=aa hv;have HKP:=aa hkp;have HT:=aa ht
 obtain⟨RES,hRES⟩:∃R,lsR v k t (t.size+1) a0 e0 [] []=R:=⟨_,rfl⟩;rw[hRES];have HRES:=aa hRES;clear hk hv hkp hc hp hne ht hRES;go_enter func67,ntmps67;go_wp2
 go_step3
 go_wp2
 go_step3
 go_wp2
 go_loopg [] (t.size+1) (fun n wr=>∃(a:Nat) (e:Int) (fi:List Fi) (cd:List Int) (F C:Hd),lsR v k t n a e fi cd=RES/\(e=0->t.size- a<n)/\(e=0->fi.length<=a/\cd.length<=a)/\((jm k=true->cd=[]/\C=hd0)/\(jm k=false->fi=[]/\F=hd0))/\
  LS w g gp t {p with filters:=fi,codes:=cd} {h with filters:=F,codes:=C} a e wr/\iE w wr fi F/\lR w wr cd C)
 case atStart=>exact⟨a0,e0,[],[],hd0,hd0,HRES.o,fun _=>by omega,fun _=>⟨ag _,ag _⟩,⟨fun _=>⟨rfl,rfl⟩,fun _=>⟨rfl,rfl⟩⟩,L0.o,dD _ _ _ _,dD _ _ _ _⟩
 case round=>
  obtain⟨a,e,fi,cd,F,C,hl,hfu,hlen,hnil,hI,hF,hC⟩:=hrel;have HNIL:=aa hnil;clear hnil
  have HL:=aa hl;have HFU:=aa hfu;have HLEN:=aa hlen;have I:=aa hI;have OF:=aa hF;have OC:=aa hC
  clear hl hfu hlen hI hF hC
  go_wp2_with fail
  refine(dG g a t e _ I.o.cur).mono ?_;rintro e' w1 ⟨rfl,hw1⟩;subst hw1
  by_cases he:e=0
  rotate_left
  ·have e1:(e==0)=false:=ar.2 he;have HX:Hid (RES=(fi,cd,a,e)):=aa (by rw[<-HL.o,Es he]);clear he;go_wp2;rw[Exit.noGoto_normal]
   go_end0
   exact⟨rfl,F,C,fi,cd,a,e,HX.o,I.o,OF.o,OC.o⟩
  subst he;obtain⟨n,rfl⟩:∃n,gk=n+1:=⟨gk- 1,by have:=HFU.o (by first| rfl| trivial);omega⟩;rw[qn]at HL
  go_wp2_with fail
  refine(eI g a t 0 _ I.o.cur).mono ?_;rintro e' w1 ⟨rfl,hb⟩;have I1:=aa (I.o.below hb);have OF1:Hid (iE w w1 fi F):=aa (dV OF.o hb);have OC1:Hid (lR w w1 cd C):=aa (dV OC.o hb)
  clear hb I OF OC
  by_cases hz:t.size<=a
  ·have e2:(((t.size- a:Nat):Int)==0)=true:=aK.2 (by omega);have HX:Hid (RES=(fi,cd,a,0)):=aa (by rw[<-HL.o,if_pos (.inr hz)]);clear hz;go_wp2;rw[Exit.noGoto_normal]
   go_end0
   exact⟨rfl,F,C,fi,cd,a,0,HX.o,I1.o,OF1.o,OC1.o⟩
  have e2:(((t.size- a:Nat):Int)==0)=false:=ar.2 (by omega);have HZ:Hid (a<t.size):=aa (by omega);clear hz;have kk:=(I1.o.pk.cell 0).trans (cI _ _);simp only[HKP.o]at kk
  go_wp2_with fail
  refine(nK k _).mono ?_;rintro e' w2 ⟨rfl,hw2⟩;subst hw2;cases hask:jm k
  ·have HA:=aa hask;clear hask;have HL2:=HL.o;rw[ae (fun x=>by have:=HZ.o;rcases x with x| x<;>omega),ae (by rw[HA.o];decide)]at HL2
   replace HL2:=aa HL2
   clear HL;obtain⟨y,hy⟩:∃y,(ls t).drop a=y :: (ls t).drop (a+1):=⟨_,bQ (by rw[aN];exact HZ.o)⟩;have HY:=aa (tf hy);have HNUM:Hid ((aH t a 0 1).2.1=a+1/\(aH t a 0 1).2.2=0):=aa (by
    have:aH t a 0 1=(t.extract a (a+1),a+1,0):=dZ (k:=1) HZ.o;rw[this];exact⟨rfl,rfl⟩)
   have hyw:IntKind.i64.wrap (y.toNat:Int)=(y.toNat:Int):=by have:=y.toNat_lt;rw[aQ];omega
   clear hy kk;have HLC:Hid (cd.length<=1000000000000):=aa (by have:=(HLEN.o (by first| rfl| trivial)).2;have:=HZ.o;have:=HT.o;omega);have HS:w1.cell? ⟨gp,22,none⟩=some (.slice C.a cd.length C.c):=(I1.o.pk.cell 22).trans (bS _ _)
   go_wp2_with fail
   refine je (fun w'=>w'.cell? ⟨gp,22,none⟩=some (.slice C.a cd.length C.c)) [10] (by kernel_rfl) ?_
   replace HS:w1.drew.cell? ⟨gp,22,none⟩=some (.slice C.a cd.length C.c):=HS
   refine Uo (i:=0) (v:=?vc_0) [10] rfl (Or.inl ⟨by rfl,?hc_0⟩) HS ?rc_0
   case hc_0=>intro w' hSw;(try dsimp only at hSw);go_simp;try with_reducible rfl
   refine Uo (i:=1) (v:=?vc_1) [10] rfl (Or.inl ⟨by rfl,?hc_1⟩) HS ?rc_1
   case hc_1=>intro w' hSw;(try dsimp only at hSw);go_simp;try with_reducible rfl
   refine Uo (i:=2) (v:=?vc_2) [10] rfl (Or.inl ⟨by rfl,?hc_2⟩) HS ?rc_2
   case hc_2=>intro w' hSw;(try dsimp only at hSw);go_simp;try with_reducible rfl
   refine Uo (i:=3) (v:=?vc_3) [10] rfl (Or.inl ⟨by rfl,?hc_3⟩) HS ?rc_3
   case hc_3=>intro w' hSw;(try dsimp only at hSw);go_simp;try with_reducible rfl
   refine Uo (i:=4) (v:=?vc_4) [10] rfl (Or.inl ⟨by rfl,?hc_4⟩) HS ?rc_4
   case hc_4=>intro w' hSw;(try dsimp only at hSw);go_simp;try with_reducible rfl
   refine Uo (i:=5) (v:=?vc_5) [10] rfl (Or.inl ⟨by rfl,?hc_5⟩) HS ?rc_5
   case hc_5=>intro w' hSw;(try dsimp only at hSw);go_simp;try with_reducible rfl
   refine Up 6 rfl (fun K hK=>?_);go_simp
   go_at_call 61
   refine(dR g a t 0 1 _ (I1.o.drewN 1).cur (by decide)).mono ?_;rintro e' y1 ⟨rfl,hc,hm⟩;rw[HNUM.o.1,HNUM.o.2]at hc;have J1:=aa ((I1.o.drewN 1).turn hc hm);have P1:Hid (lR w y1 cd C):=aa ((show lR w (w1.drewN 1) cd C from OC1.o).stay hm I1.o.ne.1);have T1:Hid (iE w y1 fi F):=aa ((show iE w (w1.drewN 1) fi F from OF1.o).stay hm I1.o.ne.1);clear hc hm HS;have HS:=(J1.o.pk.cell 22).trans (bS _ _);simp only at HS;rw[HY.o];go_simp;refine hK.out _ _ (fun _=>HS) ?_;clear hK K;refine Uo (i:=7) (v:=?vc_7) [10] rfl (Or.inl ⟨by rfl,?hc_7⟩) HS ?rc_7
   case hc_7=>intro w' hSw;(try dsimp only at hSw);go_simp;try with_reducible rfl
   refine Up 8 rfl (fun K hK=>?_);go_simp;have J2:=aa (J1.o.alloc (.cells #[.int .i64 (y.toNat:Int)] 3));have P2:=aa (jh P1.o (.cells #[.int .i64 (y.toNat:Int)] 3));have T2:=aa (jh T1.o (.cells #[.int .i64 (y.toNat:Int)] 3));clear HS;have HS:=(J2.o.pk.cell 22).trans (bS _ _);simp only at HS;refine hK.out _ _ (fun _=>HS) ?_;clear hK K;refine Up 9 rfl (fun K hK=>?_);refine mS rfl (.tmp 28) (.tmp 32) 26 rfl w.heap.size 3 _ 1 8 underlying26 Cw rfl (by decide) (.slice C.a cd.length C.c) _ _ rfl P2.o _ _ 1 1 [.int .i64 (y.toNat:Int)] rfl (Rd.lit _ _ _ rfl (ed _) rfl) (by intro u hu;simp at hu;subst hu;rfl) (by have:=HLC.o;unfold maxLen;omega) (by have:=HLC.o;omega) J2.o.mods.size ?_;intro v' y3 hown hg hat;obtain⟨A',c',rfl,hcap,hrd⟩:=jK hown;have J3:=aa (J2.o.grown hg (fun q hq=>(cX P2.o q hq).1));clear hcap hrd HS;have HS:=(J3.o.pk.cell 22).trans (bS _ _);simp only at HS;refine hK.out _ _ (fun _=>HS) ?_;clear hK K;refine Up 10 rfl (fun K hK=>?_);go_simp;refine hK.out _ _ (fun hn=>absurd (hn 10 (by simp)) (by decide)) (mc (d:=10) (by simp) _ _ _ _ (by kernel_rfl) ?_);have c22:=HS;have f22:=J3.o.pk.free 22;clear hK K HS;refine Qw (i:=11) (v:=?vc_11) rfl (by kernel_rfl) (by kernel_rfl) (by kernel_rfl) (fun _ _ _ h=>h) (Or.inl ⟨by rfl,?hc_11⟩) ?rc_11
   case hc_11=>intro w';go_simp;try with_reducible rfl
   refine Uq 12 rfl (fun K hK=>?_);go_simp;refine hK.out _ _ ?_;clear hK K;refine QB (by kernel_rfl) ?_ _;go_wp2
   go_roundg n
   case measure=>omega
   case rel=>
    obtain⟨hn1,hn2⟩:=HNIL.o.2 HA.o;refine⟨a+1,0,fi,cd++[(y.toNat:Int)],F,⟨A',c'⟩,?_,fun _=>by have:=HFU.o (by first| rfl| trivial);have:=HZ.o;omega,fun _=>?_,⟨fun h=>(by rw[HA.o]at h;cases h),fun _=>⟨hn1,hn2⟩⟩,J3.o.put 22 _ (Aq {p with filters:=fi} {h with filters:=F} cd y.toNat A' c' C),?_,lR.snoc hown _ J3.o.ne.2.1⟩
    ·have:=HL2.o;rw[HY.o]at this;exact this
    ·have h1:=HLEN.o (by first| rfl| trivial);rw[List.length_append];exact⟨by omega,by simp;omega⟩
    ·rw[hn1,hn2];exact dD _ _ _ _
  ·have HA:=aa hask;clear hask;have HL2:=HL.o;rw[ae (fun x=>by have:=HZ.o;rcases x with x| x<;>omega),if_pos HA.o]at HL2
   replace HL2:=aa HL2
   have HLF:Hid (fi.length<=1000000000000):=aa (by have:=(HLEN.o (by first| rfl| trivial)).1;have:=HZ.o;have:=HT.o;omega);have hkk:k=8\/k=10:=aR (show decide (k=8\/k=10)=true from HA.o);have HKK:=aa hkk;have HFB:=aa (fun h0=>vA (v:=v) (t:=t) hkk (pf HZ.o) h0);clear HL kk hkk
   go_wp2_with fail
   refine(jG g a t 0 _ I1.o.cur).mono ?_;rintro e' w2 ⟨rfl,hb⟩;have I2:=aa (I1.o.below hb);have OF2:Hid (iE w w2 fi F):=aa (dV OF1.o hb)
   clear hb I1 OF1 OC1
   go_wp2_with fail
   refine(rO (t.extract a t.size) _ (by rw[rJ];have:=HT.o;omega)).mono ?_;rintro e' w3 ⟨rfl,hb⟩;have I3:=aa (I2.o.below hb);have OF3:Hid (iE w w3 fi F):=aa (dV OF2.o hb)
   clear hb I2 OF2;have HRT:=aa (DV (t:=t) (a:=a) (pf HZ.o));have HRC:Hid (rtC t a 0=((bL (t.extract a t.size)).1,a+(bL (t.extract a t.size)).2.1,(bL (t.extract a t.size)).2.2)):=aa (ae (fun x=>x rfl));obtain⟨U,hU⟩:∃U,bL (t.extract a t.size)=U:=⟨_,rfl⟩;rw[hU]at HRT HRC⊢;clear hU;obtain⟨T,m,x⟩:=U;simp only at HRT HRC⊢;rw[HRC.o]at HRT
   go_wp2_with fail
   refine(cB g a t 0 x _ I3.o.cur).mono ?_;rintro e' w4 ⟨rfl,hc,hm⟩;rw[if_pos rfl]at hc;have I4:=aa (I3.o.turn hc hm);have OF4:Hid (iE w w4 fi F):=aa (OF3.o.stay hm I3.o.ne.1)
   clear hc hm I3 OF3
   go_wp2_with fail
   refine(eo g a t x (m:Int) _ I4.o.cur).mono ?_;rintro e' w5 ⟨rfl,hc,hm⟩;rw[HRT.o]at hc;have I5:=aa (I4.o.turn hc hm);have OF5:Hid (iE w w5 fi F):=aa (OF4.o.stay hm I4.o.ne.1)
   clear hc hm I4 OF4;have I6:=aa (I5.o.alloc (.cells (dI ⟨T,0,false,false,0⟩) 32));have OF6:Hid (iE w (w5.alloc (.cells (dI ⟨T,0,false,false,0⟩) 32)) fi F):=aa (jh OF5.o _);have K6:=aa (Bk.fresh w5 32 (dI ⟨T,0,false,false,0⟩));have HGF:Hid (w.heap.size<=w5.heap.size):=aa I5.o.mods.size;have kk:(w5.alloc (.cells #[.string T,.int .i64 0,.bool false,.bool false,.int .i64 0] 32)).cell? ⟨gp,0,none⟩=some (.int .i64 k):=(I6.o.pk.cell 0).trans ((cI _ _).trans (by rw[<-HKP.o]));have OFL:Hid (∀q,(Value.slice F.a fi.length F.c).ownBlock=some q->q<w5.heap.size):=aa fun q hq=>(cX OF5.o q hq).2
   by_cases h8:k=8
   ·have e8:(k==8)=true:=aK.2 h8;have HFR:Hid (fiR v k t a=(vB T (opR v t (a+m) x).1,(opR v t (a+m) x).2.1,(opR v t (a+m) x).2.2)):=aa (by unfold fiR;rw[if_pos h8,HRC.o]);clear h8
    go_wp2_with fail
    refine(wN v HV.o g (a+m) t x w5.heap.size T _ I6.o.cur K6.o (by have:=I5.o.ne;have:=HGF.o;omega)).mono ?_;rintro e' w7 ⟨rfl,hc,hk7,hm⟩;have I7:=aa (I6.o.opt hc hm HGF.o);have OF7:Hid (iE w w7 fi F):=aa (OF6.o.opt hm I5.o.ne.1 OFL.o);have K7:=aa hk7;clear hc hm hk7 I6 OF6 K6 kk;rw[HFR.o]at HL2 HFB;obtain⟨f,hf⟩:∃f,vB T (opR v t (a+m) x).1=f:=⟨_,rfl⟩;rw[hf]at K7 HL2 HFB;generalize (opR v t (a+m) x).2.1=a7 at*;generalize (opR v t (a+m) x).2.2=e7 at*;clear hf HFR;simp only at HL2 HFB;have q0:=K7.o.cell 0;have q1:=K7.o.cell 1;have q2:=K7.o.cell 2;have q3:=K7.o.cell 3;have q4:=K7.o.cell 4
    simp only[dI,ay,aE,aB]at q0 q1 q2 q3 q4;have HS:w7.cell? ⟨gp,23,none⟩=some (.slice F.a fi.length F.c)/\w7.cell? ⟨w5.heap.size,0,none⟩=some (.string f.topic)/\w7.cell? ⟨w5.heap.size,1,none⟩=some (.int .i64 f.qos)/\w7.cell? ⟨w5.heap.size,2,none⟩=some (.bool f.noLocal)/\w7.cell? ⟨w5.heap.size,3,none⟩=some (.bool f.asPub)/\w7.cell? ⟨w5.heap.size,4,none⟩=some (.int .i64 f.handling):=⟨(I7.o.pk.cell 23).trans (bP _ _),q0,q1,q2,q3,q4⟩;clear q0 q1 q2 q3 q4
    go_wp2_with fail
    refine je (fun w'=>w'.cell? ⟨gp,23,none⟩=some (.slice F.a fi.length F.c)/\w'.cell? ⟨w5.heap.size,0,none⟩=some (.string f.topic)/\w'.cell? ⟨w5.heap.size,1,none⟩=some (.int .i64 f.qos)/\w'.cell? ⟨w5.heap.size,2,none⟩=some (.bool f.noLocal)/\w'.cell? ⟨w5.heap.size,3,none⟩=some (.bool f.asPub)/\w'.cell? ⟨w5.heap.size,4,none⟩=some (.int .i64 f.handling)) [8] (by kernel_rfl) ?_
    replace HS:w7.drew.cell? ⟨gp,23,none⟩=some (.slice F.a fi.length F.c)/\w7.drew.cell? ⟨w5.heap.size,0,none⟩=some (.string f.topic)/\w7.drew.cell? ⟨w5.heap.size,1,none⟩=some (.int .i64 f.qos)/\w7.drew.cell? ⟨w5.heap.size,2,none⟩=some (.bool f.noLocal)/\w7.drew.cell? ⟨w5.heap.size,3,none⟩=some (.bool f.asPub)/\w7.drew.cell? ⟨w5.heap.size,4,none⟩=some (.int .i64 f.handling):=HS
    refine Uo (i:=0) (v:=?vf_0) [8] rfl (Or.inl ⟨by rfl,?hf_0⟩) HS ?rf_0
    case hf_0=>intro w' hSw;(try dsimp only at hSw);go_simp;try with_reducible rfl
    refine Uo (i:=1) (v:=?vf_1) [8] rfl (Or.inl ⟨by rfl,?hf_1⟩) HS ?rf_1
    case hf_1=>intro w' hSw;(try dsimp only at hSw);go_simp;try with_reducible rfl
    refine Uo (i:=2) (v:=?vf_2) [8] rfl (Or.inl ⟨by rfl,?hf_2⟩) HS ?rf_2
    case hf_2=>intro w' hSw;(try dsimp only at hSw);go_simp;try with_reducible rfl
    refine Uo (i:=3) (v:=?vf_3) [8] rfl (Or.inl ⟨by rfl,?hf_3⟩) HS ?rf_3
    case hf_3=>intro w' hSw;(try dsimp only at hSw);go_simp;try with_reducible rfl
    refine Uo (i:=4) (v:=?vf_4) [8] rfl (Or.inl ⟨by rfl,?hf_4⟩) HS ?rf_4
    case hf_4=>intro w' hSw;(try dsimp only at hSw);go_simp;try with_reducible rfl
    refine Uo (i:=5) (v:=?vf_5) [8] rfl (Or.inl ⟨by rfl,?hf_5⟩) HS ?rf_5
    case hf_5=>intro w' hSw;(try dsimp only at hSw);go_simp;try with_reducible rfl
    have J1:=aa (I7.o.drewN 1);have P1:Hid (iE w w7.drew fi F):=aa OF7.o;have K8:Hid (Bk w7.drew w5.heap.size 32 (dI f)):=aa K7.o;refine Up 6 rfl (fun K hK=>?_);go_simp;have J2:=aa (J1.o.alloc (.cells #[.string f.topic,.int .i64 f.qos,.bool f.noLocal,.bool f.asPub,.int .i64 f.handling] 32));have P2:=aa (jh P1.o (.cells #[.string f.topic,.int .i64 f.qos,.bool f.noLocal,.bool f.asPub,.int .i64 f.handling] 32));have K9:=aa (K8.o.alloc (.cells #[.string f.topic,.int .i64 f.qos,.bool f.noLocal,.bool f.asPub,.int .i64 f.handling] 32));clear HS;have HS:=And.intro ((J2.o.pk.cell 23).trans (bP _ _)) (And.intro (K9.o.cell 0) (And.intro (K9.o.cell 1) (And.intro (K9.o.cell 2) (And.intro (K9.o.cell 3) (K9.o.cell 4)))));simp only[dI,ay,aE,aB]at HS;refine hK.out _ _ (fun _=>HS) ?_;clear hK K;refine Up 7 rfl (fun K hK=>?_);refine mS rfl (.tmp 63) (.tmp 65) 27 rfl w.heap.size 32 _ 5 40 underlying27 oP rfl (by decide) (.slice F.a fi.length F.c) _ _ rfl P2.o _ _ 1 1 (fiC f) rfl (Bv _ f) (yG f) (by have:=HLF.o;unfold maxLen;omega) (by have:=HLF.o;omega) J2.o.mods.size ?_;intro v' y3 hown hg hat;obtain⟨A',c',rfl,hcap,hrd⟩:=jK hown;have J3:=aa (J2.o.grown hg (fun q hq=>(cX P2.o q hq).1));have K10:=aa (vV hg K9.o (fun e=>by have h2:=OFL.o _ e;omega));clear hcap hrd HS;have HS:=And.intro ((J3.o.pk.cell 23).trans (bP _ _)) (And.intro (K10.o.cell 0) (And.intro (K10.o.cell 1) (And.intro (K10.o.cell 2) (And.intro (K10.o.cell 3) (K10.o.cell 4)))));simp only[dI,ay,aE,aB]at HS;refine hK.out _ _ (fun _=>HS) ?_;clear hK K;refine Up 8 rfl (fun K hK=>?_);go_simp;refine hK.out _ _ (fun hn=>absurd (hn 8 (by simp)) (by decide)) (mc (d:=8) (by simp) _ _ _ _ (by kernel_rfl) ?_);have c23:=HS.1;have f23:=J3.o.pk.free 23;clear hK K HS;refine Qw (i:=9) (v:=?vf_9) rfl (by kernel_rfl) (by kernel_rfl) (by kernel_rfl) (fun _ _ _ h=>h) (Or.inl ⟨by rfl,?hf_9⟩) ?rf_9
    case hf_9=>intro w';go_simp;try with_reducible rfl
    refine Uq 10 rfl (fun K hK=>?_);go_simp;refine hK.out _ _ ?_;clear hK K;refine QB (by kernel_rfl) ?_ _;go_wp2
    go_roundg n
    case measure=>omega
    case rel=>
     obtain⟨hn1,hn2⟩:=HNIL.o.1 HA.o;refine⟨a7,e7,fi++[f],cd,⟨A',c'⟩,C,HL2.o,fun h0=>(by obtain⟨b1,b2,b3⟩:=HFB.o h0;have:=HFU.o (by first| rfl| trivial);have:=HZ.o;omega),fun h0=>?_,⟨fun _=>⟨hn1,hn2⟩,fun h=>(by rw[HA.o]at h;cases h)⟩,J3.o.put 23 _ (oT {p with codes:=cd} {h with codes:=C} fi f A' c' F),iE.snoc hown _ J3.o.ne.2.1,?_⟩
     ·obtain⟨b1,b2,b3⟩:=HFB.o h0;have h1:=HLEN.o (by first| rfl| trivial);rw[List.length_append,hn1];exact⟨by simp;omega,ag _⟩
     ·rw[hn1,hn2];exact dD _ _ _ _
   ·have e8:(k==8)=false:=ar.2 h8;have HFR:Hid (fiR v k t a=(⟨T,0,false,false,0⟩,a+m,x)):=aa (by unfold fiR;rw[ae h8,HRC.o]);clear h8;rw[HFR.o]at HL2 HFB;simp only at HL2 HFB;obtain⟨f,hf⟩:∃f:Fi,⟨T,0,false,false,0⟩=f:=⟨_,rfl⟩;rw[hf]at K6 HL2 HFB;have I7:=I6;have OF7:=OF6;have K7:=K6
    clear I6 OF6 K6 HFR;obtain⟨a7,ha7⟩:∃a7,a+m=a7:=⟨_,rfl⟩;rw[ha7]at I7 HL2 HFB;obtain⟨e7,he7⟩:∃e7,x=e7:=⟨_,rfl⟩;rw[he7]at I7 HL2 HFB;clear ha7 he7
    go_wp2_with fail
    rw[hf]at OF7 I7;clear kk;obtain⟨w7,hw7⟩:∃w7,w5.alloc (.cells #[.string T,.int .i64 0,.bool false,.bool false,.int .i64 0] 32)=w7:=⟨_,rfl⟩;have hw8:w5.alloc (.cells (dI f) 32)=w7:=by rw[<-hf];exact hw7
    rw[hw8]at I7 OF7 K7;rw[hw7];clear hw7 hw8 hf;have q0:=K7.o.cell 0;have q1:=K7.o.cell 1;have q2:=K7.o.cell 2;have q3:=K7.o.cell 3;have q4:=K7.o.cell 4
    simp only[dI,ay,aE,aB]at q0 q1 q2 q3 q4;have HS:w7.cell? ⟨gp,23,none⟩=some (.slice F.a fi.length F.c)/\w7.cell? ⟨w5.heap.size,0,none⟩=some (.string f.topic)/\w7.cell? ⟨w5.heap.size,1,none⟩=some (.int .i64 f.qos)/\w7.cell? ⟨w5.heap.size,2,none⟩=some (.bool f.noLocal)/\w7.cell? ⟨w5.heap.size,3,none⟩=some (.bool f.asPub)/\w7.cell? ⟨w5.heap.size,4,none⟩=some (.int .i64 f.handling):=⟨(I7.o.pk.cell 23).trans (bP _ _),q0,q1,q2,q3,q4⟩;clear q0 q1 q2 q3 q4;refine je (fun w'=>w'.cell? ⟨gp,23,none⟩=some (.slice F.a fi.length F.c)/\w'.cell? ⟨w5.heap.size,0,none⟩=some (.string f.topic)/\w'.cell? ⟨w5.heap.size,1,none⟩=some (.int .i64 f.qos)/\w'.cell? ⟨w5.heap.size,2,none⟩=some (.bool f.noLocal)/\w'.cell? ⟨w5.heap.size,3,none⟩=some (.bool f.asPub)/\w'.cell? ⟨w5.heap.size,4,none⟩=some (.int .i64 f.handling)) [8] (by kernel_rfl) ?_
    replace HS:w7.drew.cell? ⟨gp,23,none⟩=some (.slice F.a fi.length F.c)/\w7.drew.cell? ⟨w5.heap.size,0,none⟩=some (.string f.topic)/\w7.drew.cell? ⟨w5.heap.size,1,none⟩=some (.int .i64 f.qos)/\w7.drew.cell? ⟨w5.heap.size,2,none⟩=some (.bool f.noLocal)/\w7.drew.cell? ⟨w5.heap.size,3,none⟩=some (.bool f.asPub)/\w7.drew.cell? ⟨w5.heap.size,4,none⟩=some (.int .i64 f.handling):=HS
    refine Uo (i:=0) (v:=?vg_0) [8] rfl (Or.inl ⟨by rfl,?hg_0⟩) HS ?rg_0
    case hg_0=>intro w' hSw;(try dsimp only at hSw);go_simp;try with_reducible rfl
    refine Uo (i:=1) (v:=?vg_1) [8] rfl (Or.inl ⟨by rfl,?hg_1⟩) HS ?rg_1
    case hg_1=>intro w' hSw;(try dsimp only at hSw);go_simp;try with_reducible rfl
    refine Uo (i:=2) (v:=?vg_2) [8] rfl (Or.inl ⟨by rfl,?hg_2⟩) HS ?rg_2
    case hg_2=>intro w' hSw;(try dsimp only at hSw);go_simp;try with_reducible rfl
    refine Uo (i:=3) (v:=?vg_3) [8] rfl (Or.inl ⟨by rfl,?hg_3⟩) HS ?rg_3
    case hg_3=>intro w' hSw;(try dsimp only at hSw);go_simp;try with_reducible rfl
    refine Uo (i:=4) (v:=?vg_4) [8] rfl (Or.inl ⟨by rfl,?hg_4⟩) HS ?rg_4
    case hg_4=>intro w' hSw;(try dsimp only at hSw);go_simp;try with_reducible rfl
    refine Uo (i:=5) (v:=?vg_5) [8] rfl (Or.inl ⟨by rfl,?hg_5⟩) HS ?rg_5
    case hg_5=>intro w' hSw;(try dsimp only at hSw);go_simp;try with_reducible rfl
    have J1:=aa (I7.o.drewN 1);have P1:Hid (iE w w7.drew fi F):=aa OF7.o;have K8:Hid (Bk w7.drew w5.heap.size 32 (dI f)):=aa K7.o;refine Up 6 rfl (fun K hK=>?_);go_simp;have J2:=aa (J1.o.alloc (.cells #[.string f.topic,.int .i64 f.qos,.bool f.noLocal,.bool f.asPub,.int .i64 f.handling] 32));have P2:=aa (jh P1.o (.cells #[.string f.topic,.int .i64 f.qos,.bool f.noLocal,.bool f.asPub,.int .i64 f.handling] 32));have K9:=aa (K8.o.alloc (.cells #[.string f.topic,.int .i64 f.qos,.bool f.noLocal,.bool f.asPub,.int .i64 f.handling] 32));clear HS;have HS:=And.intro ((J2.o.pk.cell 23).trans (bP _ _)) (And.intro (K9.o.cell 0) (And.intro (K9.o.cell 1) (And.intro (K9.o.cell 2) (And.intro (K9.o.cell 3) (K9.o.cell 4)))));simp only[dI,ay,aE,aB]at HS;refine hK.out _ _ (fun _=>HS) ?_;clear hK K;refine Up 7 rfl (fun K hK=>?_);refine mS rfl (.tmp 63) (.tmp 65) 27 rfl w.heap.size 32 _ 5 40 underlying27 oP rfl (by decide) (.slice F.a fi.length F.c) _ _ rfl P2.o _ _ 1 1 (fiC f) rfl (Bv _ f) (yG f) (by have:=HLF.o;unfold maxLen;omega) (by have:=HLF.o;omega) J2.o.mods.size ?_;intro v' y3 hown hg hat;obtain⟨A',c',rfl,hcap,hrd⟩:=jK hown;have J3:=aa (J2.o.grown hg (fun q hq=>(cX P2.o q hq).1));have K10:=aa (vV hg K9.o (fun e=>by have h2:=OFL.o _ e;omega));clear hcap hrd HS;have HS:=And.intro ((J3.o.pk.cell 23).trans (bP _ _)) (And.intro (K10.o.cell 0) (And.intro (K10.o.cell 1) (And.intro (K10.o.cell 2) (And.intro (K10.o.cell 3) (K10.o.cell 4)))));simp only[dI,ay,aE,aB]at HS;refine hK.out _ _ (fun _=>HS) ?_;clear hK K;refine Up 8 rfl (fun K hK=>?_);go_simp;refine hK.out _ _ (fun hn=>absurd (hn 8 (by simp)) (by decide)) (mc (d:=8) (by simp) _ _ _ _ (by kernel_rfl) ?_);have c23:=HS.1;have f23:=J3.o.pk.free 23;clear hK K HS;refine Qw (i:=9) (v:=?vg_9) rfl (by kernel_rfl) (by kernel_rfl) (by kernel_rfl) (fun _ _ _ h=>h) (Or.inl ⟨by rfl,?hg_9⟩) ?rg_9
    case hg_9=>intro w';go_simp;try with_reducible rfl
    refine Uq 10 rfl (fun K hK=>?_);go_simp;refine hK.out _ _ ?_;clear hK K;refine QB (by kernel_rfl) ?_ _;go_wp2
    go_roundg n
    case measure=>omega
    case rel=>
     obtain⟨hn1,hn2⟩:=HNIL.o.1 HA.o;refine⟨a7,e7,fi++[f],cd,⟨A',c'⟩,C,HL2.o,fun h0=>(by obtain⟨b1,b2,b3⟩:=HFB.o h0;have:=HFU.o (by first| rfl| trivial);have:=HZ.o;omega),fun h0=>?_,⟨fun _=>⟨hn1,hn2⟩,fun h=>(by rw[HA.o]at h;cases h)⟩,J3.o.put 23 _ (oT {p with codes:=cd} {h with codes:=C} fi f A' c' F),iE.snoc hown _ J3.o.ne.2.1,?_⟩
     ·obtain⟨b1,b2,b3⟩:=HFB.o h0;have h1:=HLEN.o (by first| rfl| trivial);rw[List.length_append,hn1];exact⟨by simp;omega,ag _⟩
     ·rw[hn1,hn2];exact dD _ _ _ _
end
theorem Fr{t:ByteArray}{a:Nat}{e:Int}(h:a<=t.size):(rtC t a e).2.1<=t.size/\(rtC t a e).1.size<=65535:=by
 unfold rtC;split
 ·exact⟨h,ag _⟩
 ·have:=uq (t.extract a t.size);rw[aj]at this;refine⟨by show a+(bL (t.extract a t.size)).2.1<=t.size;omega,this.2⟩
section
attribute [local go_sem ↓] bD bF bH bI bu
attribute [local go_sem] bc aD bh bg bK bJ bd aY be aO ax cI dC dB dt dj di dA dr dp dn bW co bO bZ bX cz cy cw cu ct cC cn bS bP bR
theorem ti(v k:Int)(t:ByteArray):∀(n a:Nat) (e:Int) (fi:List Fi) (cd:List Int),(lsR v k t n a e fi cd).1.length<=fi.length+n/\(lsR v k t n a e fi cd).2.1.length<=cd.length+n/\∀f∈(lsR v k t n a e fi cd).1,f∈fi\/f.topic.size<=65535
 | 0,a,e,fi,cd=>⟨ac _,ac _,fun f hf=>.inl hf⟩
 | n+1,a,e,fi,cd=>by
   rw[qn];split
   ·exact⟨by show fi.length<=_;omega,by show cd.length<=_;omega,fun f hf=>.inl hf⟩
   ·rename_i hc;have hlt:a<t.size:=Nat.lt_of_not_le fun x=>hc (.inr x);split
    ·obtain⟨h1,h2,h3⟩:=ti v k t n (fiR v k t a).2.1 (fiR v k t a).2.2 (fi++[(fiR v k t a).1]) cd;rw[List.length_append]at h1;simp only[bM,eC]at h1;refine⟨by omega,by omega,fun f hf=>?_⟩;rcases h3 f hf with h| h
     ·rcases cj.1 h with h| h
      ·exact .inl h
      ·right
       obtain rfl:=gA.1 h;have:=(Fr (t:=t) (a:=a) (e:=0) (pf hlt)).2;unfold fiR;split
       ·exact this
       ·exact this
     ·exact .inr h
    ·obtain⟨h1,h2,h3⟩:=ti v k t n (a+1) 0 fi (cd++[((br t a 0 1:Nat):Int)]);rw[List.length_append]at h2;simp only[bM,eC]at h2;exact⟨by omega,by omega,h3⟩
theorem Ed(v k:Int)(t:ByteArray)(a:Nat)(e:Int)(ht:t.size<=140737488351232):(∀p∈(fv v k t a e).1,ea p)/\(fv v k t a e).1.length<=1000:=by
 unfold fv;split
 ·exact⟨by simp,ag _⟩
 ·refine⟨iT (by rw[aj];omega),?_⟩
  by_cases h:(aZ k (t.extract a t.size)).2.2=0
  ·exact kj h
  ·have:=fZ h;rw[this];exact ag _
theorem lU{v k:Int}{s:ByteArray}(hs:s.size<=140737488351000):PkOk (jj v k s):=by
 obtain⟨h1,h2,h3⟩:=ti v k s (s.size+1) (lh v k s).2.1 (lh v k s).2.2 [] [];obtain⟨p1,p2⟩:=Ed v k s (aH s 0 0 2).2.1 (aH s 0 0 2).2.2 (by omega);refine⟨(by intro q hq;cases hq),p1,fun f hf=>?_,?_,?_⟩
 ·rcases h3 f hf with h| h
  ·cases h
  ·omega
 ·exact⟨ag _,ag _,ag _,ag _,ag _,ag _,ag _⟩
 ·simp only[eC]at h1 h2;exact⟨ag _,by show(li v k s).2.1.length<=_;unfold li;omega,by show(li v k s).1.length<=_;unfold li;omega,by show(lh v k s).1.length<=_;unfold lh;omega⟩
theorem DY{x y:World}{B:Nat}{A:Option Addr}{l:List Pr}{t1 t2:TypeId}{c1 c2:Array Value}{g1 g2:Nat}(h:Rd x B 4 A l.length (prs l))(b1:Bk x g1 t1 c1)(b2:Bk x g2 t2 c2)
  (n1:∀(i:Nat) (n:Int),c1[i]? ≠some (Value.int IntKind.u32 n))(n2:∀(i:Nat) (n:Int),c2[i]? ≠some (Value.int IntKind.u32 n))(hm:Mods (two g1 g2) x y)(hB:B<=x.heap.size):Rd y B 4 A l.length (prs l):=by
 rcases h.2 with h0| ⟨b,o,rfl,hb,hc⟩
 ·exact⟨h.1,.inl h0⟩
 ·by_cases hl:0<l.length
  ·obtain⟨b',o',he,_,_,q1,_⟩:=h.atP hl;simp only[aX,Addr.mk.injEq]at he;obtain⟨rfl,rfl,-⟩:=he;refine⟨h.1,.inr ⟨b,o,rfl,hb,fun j u hu=>(iG (a:=⟨b,o+j,none⟩) (hm.block b (by omega) (fun e=>?_))).trans (hc j u hu)⟩⟩;rcases e with rfl| rfl
   ·rw[b1.cell]at q1;exact n1 _ _ q1
   ·rw[b2.cell]at q1;exact n2 _ _ q1
  ·have hz:l=[]:=aF (by omega);subst hz;exact Rd.nil _ _ _ _
structure SG (w wL:World) (g gp gc:Nat) (k i:Int) (l:List Pr) (A:Option Addr) (n:Nat) (fi:List Fi) (cd:List Int) (F C:Hd) (t:ByteArray) (a:Nat) (e:Int) (x:World):Prop where
 kept:Below w.heap.size w x
 res:Bk x g PkT (pkC pk0 hs0)
 pk:Bk x gp PkT (pkC {aP k i 0 l with filters:=fi,codes:=cd} {hs0 with props:=⟨A,n⟩,filters:=F,codes:=C})
 cur:Cur x gc t a e
 rd:Rd x x.heap.size 4 A l.length (prs l)
 cap:l.length<=n
 ofi:iE wL x fi F
 ocd:lR wL x cd C
 ne:g≠gp/\g≠gc/\gp≠gc
 base:w.heap.size<=g/\w.heap.size<=gp/\w.heap.size<=gc
 lt:g<wL.heap.size/\gp<wL.heap.size/\gc<wL.heap.size
section
variable {w wL x y:World} {g gp gc:Nat} {k i:Int} {l:List Pr} {A:Option Addr} {n:Nat} {fi:List Fi} {cd:List Int} {F C:Hd} {t:ByteArray} {a a':Nat} {e e':Int}
theorem iE.into(h:iE wL x fi F):Rd x x.heap.size 5 F.a fi.length (fis fi)/\fi.length<=F.c:=by
 obtain⟨A,c,hv,h1,h2⟩:=jK h;simp only[Value.slice.injEq]at hv;obtain⟨rfl,-,rfl⟩:=hv;exact⟨h2,h1⟩
theorem lR.into(h:lR wL x cd C):Rd x x.heap.size 1 C.a cd.length (iv cd)/\cd.length<=C.c:=by
 obtain⟨A,c,hv,h1,h2⟩:=jK h;simp only[Value.slice.injEq]at hv;obtain⟨rfl,-,rfl⟩:=hv;exact⟨h2,h1⟩
theorem SG.into(s:SG w wL g gp gc k i l A n fi cd F C t a e x):PkIn x x.heap.size {aP k i 0 l with filters:=fi,codes:=cd} {hs0 with props:=⟨A,n⟩,filters:=F,codes:=C}:=
 ⟨Rd.nil _ _ _ _,s.ocd.into.1,s.ofi.into.1,s.rd,ag _,s.ocd.into.2,s.ofi.into.2,s.cap⟩
theorem SG.below(s:SG w wL g gp gc k i l A n fi cd F C t a e x)(hb:Below x.heap.size x y):SG w wL g gp gc k i l A n fi cd F C t a e y:=
 ⟨s.kept.trans (hb.mono s.kept.size),s.res.below hb s.res.lt,s.pk.below hb s.pk.lt,s.cur.below hb,(s.rd.below hb).wider hb.size,s.cap,dV s.ofi hb,dV s.ocd hb,s.ne,s.base,s.lt⟩
theorem SG.turn(s:SG w wL g gp gc k i l A n fi cd F C t a e x)(hc:Cur y gc t a' e')(hm:x.grownBy y (some gc)):SG w wL g gp gc k i l A n fi cd F C t a' e' y:=
 ⟨dw s.kept hm s.kept.size s.base.2.2,s.res.mods (S:=fun z=>z=gc) (Mods.of_grown hm rfl) s.ne.2.1,s.pk.mods (S:=fun z=>z=gc) (Mods.of_grown hm rfl) s.ne.2.2,hc,
  (s.rd.other s.cur.1 (gw _ _ _) hm (ac _)).wider hm.size,s.cap,s.ofi.stay hm s.lt.2.2,s.ocd.stay hm s.lt.2.2,s.ne,s.base,s.lt⟩
theorem SG.none(s:SG w wL g gp gc k i l A n fi cd F C t a e x):Below w.heap.size w (dE x g pk0 hs0)/\Bk (dE x g pk0 hs0) g PkT (pkC pk0 hs0):=⟨bT s.kept s.kept.size s.base.1 _ _,cO s.res _ _⟩
theorem SG.some(s:SG w wL g gp gc k i l A n fi cd F C t a e x)(P:Pk:={aP k i 0 l with filters:=fi,codes:=cd})(H:Hs:={hs0 with props:=⟨A,n⟩,filters:=F,codes:=C})(hP:P= {aP k i 0 l with filters:=fi,codes:=cd}:=by rfl)(hH:H= {hs0 with props:=⟨A,n⟩,filters:=F,codes:=C}:=by rfl):
  Below w.heap.size w (dE x g P H)/\Bk (dE x g P H) g PkT (pkC P H)/\PkIn (dE x g P H) (dE x g P H).heap.size P H:=by
 subst hP hH;have hm:=cJ x g {aP k i 0 l with filters:=fi,codes:=cd} {hs0 with props:=⟨A,n⟩,filters:=F,codes:=C};refine⟨bT s.kept s.kept.size s.base.1 _ _,cO s.res _ _,?_⟩;exact⟨Rd.nil _ _ _ _,(s.ocd.stay hm s.lt.1).into.1,(s.ofi.stay hm s.lt.1).into.1,(s.rd.other s.res (dY _ _) hm (ac _)).wider hm.size,ag _,s.ocd.into.2,s.ofi.into.2,s.cap⟩
theorem SG.of_list{ai:Nat}{ei:Int}(s:RI w g gp gc k i 0 l A n t ai ei wL)(hL:LS wL gc gp t {aP k i 0 l with filters:=fi,codes:=cd} {{hs0 with props:=⟨A,n⟩}with filters:=F,codes:=C} a e x)(hF:iE wL x fi F)(hC:lR wL x cd C):SG w wL g gp gc k i l A n fi cd F C t a e x:=
 ⟨hL.mods.below s.kept s.kept.size (fun q hq=>by rcases hq with rfl| rfl;exact s.base.2.2;exact s.base.2.1),s.res.mods hL.mods (fun h=>by rcases h with h| h;exact s.ne.2.1 h;exact s.ne.1 h),hL.pk,hL.cur,
  (DY s.rd s.cur.1 s.pk (gw _ _ _) (dY _ _) hL.mods (ac _)).wider hL.mods.size,s.cap,hF,hC,s.ne,s.base,s.res.lt,s.pk.lt,s.cur.lt⟩
end
theorem Bs{w x:World}{g gp gc:Nat}{k i:Int}{l:List Pr}{A A':Option Addr}{n n':Nat}{t:ByteArray}{a:Nat}{e:Int}{l':List Pr}(s:RI w g gp gc k i 0 l A n t a e x)(hr:Rd x x.heap.size 4 A' l'.length (prs l'))(hc:l'.length<=n'):
  RI w g gp gc k i 0 l' A' n' t a e (x.setCell ⟨gp,24,none⟩ (.slice A' l'.length n')):=by
 have hm:=cP x gp 24 (.slice A' l'.length n');exact⟨dw s.kept hm s.kept.size s.base.2.1,s.res.other (by have:=s.ne.1;simpa using this) _,s.pk.upd 24 _ rfl,⟨s.cur.1.other (by have:=s.ne.2.2;simpa using this.symm) _,s.cur.2⟩,
  (hr.other s.pk (dY _ _) hm (ac _)).wider hm.size,hc,s.ne,s.base⟩
def qT(r:Pk×Int)(w:World)(e:Ending)(w':World):Prop:=∃h,e= .returned (.tuple #[pkV r.1 h,.int .i64 r.2])/\PkIn w' w'.heap.size r.1 h/\Below w.heap.size w w'/\(∀b o,h.codes.a=some ⟨b,o,none⟩->w.heap.size<=b)
theorem kN{r:Pk×Int}{x:Int}{w w':World}(h:r=(pk0,x))(hb:Below w.heap.size w w'):qT r w (.returned (.tuple #[pkV pk0 hs0,.int .i64 x])) w':=by
 subst h;exact⟨hs0,rfl,wM _ _,hb,fun b o e=>by cases e⟩
theorem nR{r:Pk×Int}{p:Pk}{h:Hs}{w w':World}(hr:r=(p,0))(hi:PkIn w' w'.heap.size p h)(hb:Below w.heap.size w w')(hf:∀b o,h.codes.a=some ⟨b,o,none⟩->w.heap.size<=b):qT r w (.returned (.tuple #[pkV p h,.int .i64 0])) w':=by
 subst hr;exact⟨h,rfl,hi,hb,hf⟩
theorem SG.fresh{w wL x:World}{g gp gc:Nat}{k i:Int}{l:List Pr}{A:Option Addr}{n:Nat}{fi:List Fi}{cd:List Int}{F C:Hd}{t:ByteArray}{a:Nat}{e:Int}(s:SG w wL g gp gc k i l A n fi cd F C t a e x):∀b o,C.a=Option.some ⟨b,o,Option.none⟩->w.heap.size<=b:=fun b o h=>by
 have h1:=(cX s.ocd b (by rw[h];rfl)).1;have h2:=s.base.1;have h3:=s.lt.1;omega
theorem ud(v k:Int)(s:ByteArray)(w:World)(hs:s.size<=1000000000000):
  Calls prog 13 #[.int .i64 v,.int .i64 k,.string s] w (qT (sbR v k s) w):=by
 have HS:=aa hs;have HB0:=aa ((aq w.heap.size w).alloc (ac _) (.cells (pkC pk0 hs0) PkT));have H60:=aa (Bk.fresh w PkT (pkC pk0 hs0));have hst:=aW H60.o;go_enter func13,ntmps13
 go_wp2_with fail
 refine(oI v k _).mono ?_;rintro e w1 ⟨rfl,hw1⟩;subst hw1;cases hk:ir v k
 ·have HX:Hid (sbR v k s=(pk0,2)):=aa (by unfold sbR;rw[if_pos hk]);clear hk;go_wp2;refine av (aI rfl _ rfl (cO H60.o _ _)) rfl ?_;exact kN HX.o (bT HB0.o HB0.o.size (ac _) _ _)
 have HK:=aa hk;have h45:v=4\/v=5:=(aR (show decide ((v=4\/v=5)/\8<=k/\k<=11)=true from hk)).1;have HV:=aa h45;clear hk hst
 go_wp2_with fail
 refine(jL s _ (by have:=HS.o;omega)).mono ?_;rintro e w1 ⟨rfl,hc,hb⟩;have hgc:(w.alloc (.cells (pkC pk0 hs0) PkT)).heap.size=w.heap.size+1:=by simp
 have HB1:=aa (HB0.o.trans (hb.mono HB0.o.size));have H61:=aa (H60.o.below hb H60.o.lt)
 rw[hgc]at hc⊢;have HC1:=aa hc;clear hc hb hgc
 go_wp2_with fail
 refine(dR (w.heap.size+1) 0 s 0 2 _ HC1.o (by decide)).mono ?_;rintro e w2 ⟨rfl,hc,hm⟩;have HB2:=aa (dw HB1.o hm HB1.o.size (by omega));have H62:=aa (H61.o.mods (S:=fun z=>z=w.heap.size+1) (Mods.of_grown hm rfl) (by omega));have HC2:=aa hc
 have HZ:=aa HC2.o.lt;have hid:=gU s 0 0 (by omega);obtain⟨m,hm2⟩:∃m,br s 0 0 2=m:=⟨_,rfl⟩;rw[hm2]at hid⊢;have HM2:=aa hm2;obtain⟨TK,hTK⟩:∃T,aH s 0 0 2=T:=⟨_,rfl⟩;have HPR0:Hid (lh v k s=fv v k s TK.2.1 TK.2.2):=aa (by unfold lh;rw[hTK]);rw[hTK]at HC2;clear hc hm hm2 hTK;obtain⟨T0,a0,e0⟩:=TK;simp only at HPR0 HC2;obtain⟨id,hm1⟩:∃id:Int,id=(m:Int):=⟨_,rfl⟩;have hw:IntKind.i64.wrap (m:Int)=id:=by rw[hm1,aQ];omega
 have HM:Hid (id=(m:Int)):=aa hm1;clear hid hm1;have I3:Hid (RI w w.heap.size w2.heap.size (w.heap.size+1) k id 0 [] none 0 s a0 e0 (w2.alloc (.cells (pkC (aP k id 0 []) hs0) PkT))):=aa
  ⟨HB2.o.alloc HB2.o.size _,H62.o.alloc _,Bk.fresh _ _ _,⟨HC2.o.1.alloc _,HC2.o.2⟩,Rd.nil _ _ _ _,ac _,⟨by have:=HZ.o;omega,by omega,by have:=HZ.o;omega⟩,ac _,by have:=HZ.o;omega,by omega⟩
 have HLE:Hid (a0<=s.size):=aa HC2.o.2.1;clear HB2 H62 HC2 HB1 H61 HC1;rcases h45 with h4| h5
 ·have e5:(v==5)=false:=ar.2 (by omega);have HPR:Hid (lh v k s=([],a0,e0)):=aa (by rw[HPR0.o];unfold fv;rw[if_pos (.inl h4)]);have HLG:Hid (∀q∈([]:List Pr),ea q):=aa (by simp);obtain⟨l,hl⟩:∃l:List Pr,l=[]:=⟨_,rfl⟩;obtain⟨a1,ha1⟩:∃a1,a1=a0:=⟨_,rfl⟩;obtain⟨e1,he1⟩:∃e1,e1=e0:=⟨_,rfl⟩;obtain⟨A,hA⟩:∃A:Option Addr,A=none:=⟨_,rfl⟩;obtain⟨n,hn⟩:∃n:Nat,n=0:=⟨_,rfl⟩;rw[<-hl,<-ha1,<-he1]at HPR;rw[<-hl]at HLG
  replace I3:Hid (RI w w.heap.size w2.heap.size (w.heap.size+1) k id 0 l A n s a1 e1 (w2.alloc (.cells (pkC (aP k id 0 []) hs0) PkT))):=by subst hl ha1 he1 hA hn;exact I3
  clear h4 hl ha1 he1 hA hn;have HPG:=aa (show ∀q∈l,ea q from HLG.o)
  go_wp2_with fail
  refine(mB v (by first| exact HV.o| exact .inr rfl) k HK.o (w.heap.size+1) w2.heap.size a1 s e1 (aP k id 0 l) {hs0 with props:=⟨A,n⟩} _ rfl I3.o.cur I3.o.pk (by have:=HZ.o;omega) HS.o).mono ?_;rintro ee wX ⟨rfl,F,C,fi,cd,a2,e2,hls,hL,hF,hC⟩;have G0:=aa (SG.of_list I3.o hL hF hC);have HLS:Hid (li v k s=(fi,cd,a2,e2)):=aa (by unfold li;rw[HPR.o];exact hls);have HFU:Hid (jj v k s=jf k m l fi cd):=aa (by unfold jj;rw[HLS.o,HPR.o,HM2.o]);have HOK:Hid (PkOk (jf k m l fi cd)):=aa (by rw[<-HFU.o];exact lU (by have:=HS.o;omega));have HE2:Hid (sbR v k s=if e2≠0 then(pk0,e2)else if sbE v (jf k m l fi cd)≠0 then(pk0,sbE v (jf k m l fi cd))else(jf k m l fi cd,0)):=aa (by
   unfold sbR;rw[ae (by rw[HK.o];decide),HLS.o,HFU.o])
  clear hls hL hF hC;rw[HM.o]at G0;have hl:(kZ (.pointer (some ⟨w2.heap.size,0,none⟩))).run prog wX= .ok (pkV (jf k m l fi cd) {hs0 with props:=⟨A,n⟩,filters:=F,codes:=C}) wX:=cf G0.o.pk;have HGI:Hid (PkIn wX wX.heap.size (jf k m l fi cd) {hs0 with props:=⟨A,n⟩,filters:=F,codes:=C}):=aa G0.o.into;obtain⟨P,hP⟩:∃P,jf k m l fi cd=P:=⟨_,rfl⟩;rw[hP]at hl HGI HOK HE2;have HPE:=aa hP;clear hP
  go_wp2_with fail
  refine(lg v P _ _ HGI.o HOK.o).mono ?_;rintro ee wV ⟨rfl,hb⟩;have G1:=aa (G0.o.below hb);clear hb hl HGI
  go_wp2_with fail
  refine(cB _ a2 s e2 (sbE v P) _ G1.o.cur).mono ?_;rintro ee wF ⟨rfl,hc,hm⟩;have G2:=aa (G1.o.turn hc hm);clear hc hm
  have HW:Hid (((if e2=0 then sbE v P else e2)=0/\sbR v k s=(P,0))\/((if e2=0 then sbE v P else e2)≠0/\sbR v k s=(pk0,(if e2=0 then sbE v P else e2)))):=aa (by
   rw[HE2.o]
   by_cases h2:e2=0
   ·rw[if_pos h2,ae (fun x=>x h2)]
    by_cases h3:sbE v P=0
    ·rw[ae (fun x=>x h3)];exact .inl ⟨h3,rfl⟩
    ·rw[if_pos h3];exact .inr ⟨h3,rfl⟩
   ·rw[ae h2,if_pos h2];exact .inr ⟨h2,rfl⟩)
  generalize (if e2=0 then sbE v P else e2)=E at*
  go_wp2_with fail
  refine(dG _ a2 s E _ G2.o.cur).mono ?_;rintro ee wH ⟨rfl,hwh⟩;subst hwh;have hl:=cf G2.o.pk;have hst:=aW G2.o.res;rcases HW.o with ⟨h2,hr⟩ | ⟨h2,hr⟩
  ·subst h2;have HR:=aa hr;clear hr
   go_wp2;refine av (aI rfl _ rfl G2.o.some.2.1) rfl ?_;exact nR (HR.o.trans (by rw[<-HPE.o];rfl)) G2.o.some.2.2 G2.o.some.1 G2.o.fresh
  ·have e0:(E !=0)=true:=aA.2 h2;have HR:=aa hr;clear hr h2
   go_wp2;refine av (aI rfl _ rfl G2.o.none.2) rfl ?_;exact kN HR.o G2.o.none.1
 ·subst h5
  go_wp2_with fail
  refine(dG _ a0 s e0 _ I3.o.cur).mono ?_;rintro ee wE ⟨rfl,hwe⟩;subst hwe
  by_cases he:e0=0
  rotate_left
  ·have e9:(e0==0)=false:=ar.2 he;have HPR:Hid (lh 5 k s=([],a0,e0)):=aa (by rw[HPR0.o];unfold fv;rw[if_pos (.inr he)]);have HLG:Hid (∀q∈([]:List Pr),ea q):=aa (by simp);clear he;obtain⟨l,hl⟩:∃l:List Pr,l=[]:=⟨_,rfl⟩;obtain⟨a1,ha1⟩:∃a1,a1=a0:=⟨_,rfl⟩;obtain⟨e1,he1⟩:∃e1,e1=e0:=⟨_,rfl⟩;obtain⟨A,hA⟩:∃A:Option Addr,A=none:=⟨_,rfl⟩;obtain⟨n,hn⟩:∃n:Nat,n=0:=⟨_,rfl⟩;rw[<-hl,<-ha1,<-he1]at HPR;rw[<-hl]at HLG
   replace I3:Hid (RI w w.heap.size w2.heap.size (w.heap.size+1) k id 0 l A n s a1 e1 (w2.alloc (.cells (pkC (aP k id 0 []) hs0) PkT))):=by subst hl ha1 he1 hA hn;exact I3
   clear hl ha1 hA hn he1;have HPG:=aa (show ∀q∈l,ea q from HLG.o)
   go_wp2_with fail
   refine(mB 5 (by first| exact HV.o| exact .inr rfl) k HK.o (w.heap.size+1) w2.heap.size a1 s e1 (aP k id 0 l) {hs0 with props:=⟨A,n⟩} _ rfl I3.o.cur I3.o.pk (by have:=HZ.o;omega) HS.o).mono ?_;rintro ee wX ⟨rfl,F,C,fi,cd,a2,e2,hls,hL,hF,hC⟩;have G0:=aa (SG.of_list I3.o hL hF hC);have HLS:Hid (li 5 k s=(fi,cd,a2,e2)):=aa (by unfold li;rw[HPR.o];exact hls);have HFU:Hid (jj 5 k s=jf k m l fi cd):=aa (by unfold jj;rw[HLS.o,HPR.o,HM2.o]);have HOK:Hid (PkOk (jf k m l fi cd)):=aa (by rw[<-HFU.o];exact lU (by have:=HS.o;omega));have HE2:Hid (sbR 5 k s=if e2≠0 then(pk0,e2)else if sbE 5 (jf k m l fi cd)≠0 then(pk0,sbE 5 (jf k m l fi cd))else(jf k m l fi cd,0)):=aa (by
    unfold sbR;rw[ae (by rw[HK.o];decide),HLS.o,HFU.o])
   clear hls hL hF hC;rw[HM.o]at G0;have hl:(kZ (.pointer (some ⟨w2.heap.size,0,none⟩))).run prog wX= .ok (pkV (jf k m l fi cd) {hs0 with props:=⟨A,n⟩,filters:=F,codes:=C}) wX:=cf G0.o.pk;have HGI:Hid (PkIn wX wX.heap.size (jf k m l fi cd) {hs0 with props:=⟨A,n⟩,filters:=F,codes:=C}):=aa G0.o.into;obtain⟨P,hP⟩:∃P,jf k m l fi cd=P:=⟨_,rfl⟩;rw[hP]at hl HGI HOK HE2;have HPE:=aa hP;clear hP
   go_wp2_with fail
   refine(lg 5 P _ _ HGI.o HOK.o).mono ?_;rintro ee wV ⟨rfl,hb⟩;have G1:=aa (G0.o.below hb);clear hb hl HGI
   go_wp2_with fail
   refine(cB _ a2 s e2 (sbE 5 P) _ G1.o.cur).mono ?_;rintro ee wF ⟨rfl,hc,hm⟩;have G2:=aa (G1.o.turn hc hm);clear hc hm
   have HW:Hid (((if e2=0 then sbE 5 P else e2)=0/\sbR 5 k s=(P,0))\/((if e2=0 then sbE 5 P else e2)≠0/\sbR 5 k s=(pk0,(if e2=0 then sbE 5 P else e2)))):=aa (by
    rw[HE2.o]
    by_cases h2:e2=0
    ·rw[if_pos h2,ae (fun x=>x h2)]
     by_cases h3:sbE 5 P=0
     ·rw[ae (fun x=>x h3)];exact .inl ⟨h3,rfl⟩
     ·rw[if_pos h3];exact .inr ⟨h3,rfl⟩
    ·rw[ae h2,if_pos h2];exact .inr ⟨h2,rfl⟩)
   generalize (if e2=0 then sbE 5 P else e2)=E at*
   go_wp2_with fail
   refine(dG _ a2 s E _ G2.o.cur).mono ?_;rintro ee wH ⟨rfl,hwh⟩;subst hwh;have hl:=cf G2.o.pk;have hst:=aW G2.o.res;rcases HW.o with ⟨h2,hr⟩ | ⟨h2,hr⟩
   ·subst h2;have HR:=aa hr;clear hr
    go_wp2;refine av (aI rfl _ rfl G2.o.some.2.1) rfl ?_;exact nR (HR.o.trans (by rw[<-HPE.o];rfl)) G2.o.some.2.2 G2.o.some.1 G2.o.fresh
   ·have e0:(E !=0)=true:=aA.2 h2;have HR:=aa hr;clear hr h2
    go_wp2;refine av (aI rfl _ rfl G2.o.none.2) rfl ?_;exact kN HR.o G2.o.none.1
  ·subst he;have HPR1:Hid (lh 5 k s=((aZ k (s.extract a0 s.size)).1,a0+(aZ k (s.extract a0 s.size)).2.1,(aZ k (s.extract a0 s.size)).2.2)):=aa (by rw[HPR0.o];unfold fv;rw[ae (by omega)]);have HRG:=aa (iT (kind:=k) (s:=s.extract a0 s.size) (by rw[aj];have:=HS.o;omega));have HTK:Hid ((aH s a0 (aZ k (s.extract a0 s.size)).2.2 ((aZ k (s.extract a0 s.size)).2.1:Nat)).2=(a0+(aZ k (s.extract a0 s.size)).2.1,(aZ k (s.extract a0 s.size)).2.2)):=aa (by
    by_cases hx:(aZ k (s.extract a0 s.size)).2.2=0
    ·have:=(fd (kind:=k) (s:=s.extract a0 s.size) (l:=(aZ k (s.extract a0 s.size)).1) (n:=(aZ k (s.extract a0 s.size)).2.1) (by rw[<-hx])).2.2;rw[aj]at this;have hle:=HLE.o;rw[hx,dZ (by omega)]
    ·rw[fY hx,fZ hx];rfl)
   go_wp2_with fail
   refine(jG _ a0 s 0 _ I3.o.cur).mono ?_;rintro ee w3 ⟨rfl,hb⟩;have I4:=aa (I3.o.below hb);clear hb
   go_wp2_with fail
   refine(kl k (s.extract a0 s.size) _ (by rw[aj];have:=HS.o;omega)).mono ?_;rintro ee w4 ⟨A,n,rfl,hcap,hrd,hb⟩;have I5:=aa (I4.o.below hb);have RD5:=aa hrd;have HCAP:=aa hcap
   clear hb hrd hcap;obtain⟨R,hR⟩:∃R,aZ k (s.extract a0 s.size)=R:=⟨_,rfl⟩;rw[hR]at HPR1 HRG HTK RD5 HCAP⊢;clear hR;obtain⟨l,z,x⟩:=R;simp only at HPR1 HRG HTK RD5 HCAP⊢
   go_wp2_with fail
   refine(cB _ a0 s 0 x _ I5.o.cur).mono ?_;rintro ee w5 ⟨rfl,hc,hm⟩;rw[if_pos rfl]at hc;have RD6:=aa ((RD5.o.other I5.o.cur.1 (gw _ _ _) hm (ac _)).wider hm.size);have I6:=aa (I5.o.turn hc hm);clear hc hm
   go_wp2_with fail
   refine(eo _ a0 s x (z:Int) _ I6.o.cur).mono ?_;rintro ee w6 ⟨rfl,hc,hm⟩;rw[HTK.o]at hc;have RD7:=aa ((RD6.o.other I6.o.cur.1 (gw _ _ _) hm (ac _)).wider hm.size);have I7:=aa (I6.o.turn hc hm);clear hc hm;have I8:=aa (Bs I7.o RD7.o HCAP.o);have q24:=(I7.o.pk.cell 24).trans (bR _ _);have f24:=I7.o.pk.free 24;have HPR:Hid (lh 5 k s=(l,a0+z,x)):=HPR1;have HLG:Hid (∀q∈l,ea q):=HRG;obtain⟨a1,ha1⟩:∃a1,a0+z=a1:=⟨_,rfl⟩;obtain⟨e1,he1⟩:∃e1,x=e1:=⟨_,rfl⟩;rw[ha1,he1]at HPR I8;clear ha1 he1;have HPG:=aa (show ∀q∈l,ea q from HLG.o)
   go_wp2_with fail
   refine(mB 5 (by first| exact HV.o| exact .inr rfl) k HK.o (w.heap.size+1) w2.heap.size a1 s e1 (aP k id 0 l) {hs0 with props:=⟨A,n⟩} _ rfl I8.o.cur I8.o.pk (by have:=HZ.o;omega) HS.o).mono ?_;rintro ee wX ⟨rfl,F,C,fi,cd,a2,e2,hls,hL,hF,hC⟩;have G0:=aa (SG.of_list I8.o hL hF hC);have HLS:Hid (li 5 k s=(fi,cd,a2,e2)):=aa (by unfold li;rw[HPR.o];exact hls);have HFU:Hid (jj 5 k s=jf k m l fi cd):=aa (by unfold jj;rw[HLS.o,HPR.o,HM2.o]);have HOK:Hid (PkOk (jf k m l fi cd)):=aa (by rw[<-HFU.o];exact lU (by have:=HS.o;omega));have HE2:Hid (sbR 5 k s=if e2≠0 then(pk0,e2)else if sbE 5 (jf k m l fi cd)≠0 then(pk0,sbE 5 (jf k m l fi cd))else(jf k m l fi cd,0)):=aa (by
    unfold sbR;rw[ae (by rw[HK.o];decide),HLS.o,HFU.o])
   clear hls hL hF hC;rw[HM.o]at G0;have hl:(kZ (.pointer (some ⟨w2.heap.size,0,none⟩))).run prog wX= .ok (pkV (jf k m l fi cd) {hs0 with props:=⟨A,n⟩,filters:=F,codes:=C}) wX:=cf G0.o.pk;have HGI:Hid (PkIn wX wX.heap.size (jf k m l fi cd) {hs0 with props:=⟨A,n⟩,filters:=F,codes:=C}):=aa G0.o.into;obtain⟨P,hP⟩:∃P,jf k m l fi cd=P:=⟨_,rfl⟩;rw[hP]at hl HGI HOK HE2;have HPE:=aa hP;clear hP
   go_wp2_with fail
   refine(lg 5 P _ _ HGI.o HOK.o).mono ?_;rintro ee wV ⟨rfl,hb⟩;have G1:=aa (G0.o.below hb);clear hb hl HGI
   go_wp2_with fail
   refine(cB _ a2 s e2 (sbE 5 P) _ G1.o.cur).mono ?_;rintro ee wF ⟨rfl,hc,hm⟩;have G2:=aa (G1.o.turn hc hm);clear hc hm
   have HW:Hid (((if e2=0 then sbE 5 P else e2)=0/\sbR 5 k s=(P,0))\/((if e2=0 then sbE 5 P else e2)≠0/\sbR 5 k s=(pk0,(if e2=0 then sbE 5 P else e2)))):=aa (by
    rw[HE2.o]
    by_cases h2:e2=0
    ·rw[if_pos h2,ae (fun x=>x h2)]
     by_cases h3:sbE 5 P=0
     ·rw[ae (fun x=>x h3)];exact .inl ⟨h3,rfl⟩
     ·rw[if_pos h3];exact .inr ⟨h3,rfl⟩
    ·rw[ae h2,if_pos h2];exact .inr ⟨h2,rfl⟩)
   generalize (if e2=0 then sbE 5 P else e2)=E at*
   go_wp2_with fail
   refine(dG _ a2 s E _ G2.o.cur).mono ?_;rintro ee wH ⟨rfl,hwh⟩;subst hwh;have hl:=cf G2.o.pk;have hst:=aW G2.o.res;rcases HW.o with ⟨h2,hr⟩ | ⟨h2,hr⟩
   ·subst h2;have HR:=aa hr;clear hr
    go_wp2;refine av (aI rfl _ rfl G2.o.some.2.1) rfl ?_;exact nR (HR.o.trans (by rw[<-HPE.o];rfl)) G2.o.some.2.2 G2.o.some.1 G2.o.fresh
   ·have e0:(E !=0)=true:=aA.2 h2;have HR:=aa hr;clear hr h2
    go_wp2;refine av (aI rfl _ rfl G2.o.none.2) rfl ?_;exact kN HR.o G2.o.none.1
end
section
attribute [local go_sem ↓] bD bF bH bI bu
attribute [local go_sem] bc aD bh bg bK bJ bd aY be aO ax cI dC dB dt dj di dA dr dp dn bW co bO bZ bX cz cy cw cu ct cC cn bS bP bR
theorem MN(k:Int):∀l:List Fi,(l.flatMap (fiL k)).length<=ft l+3*l.length
 | []=>ac _
 | f :: l=>by
   have h:=MN k l;have h1:(fiL k f).length<=f.topic.size+3:=by
    unfold fiL;rw[List.length_append,aN,eN];split
    ·simp
    ·simp
   have h2:ft (f :: l)=f.topic.size+ft l:=by unfold ft;simp
   rw[cF,List.length_append,bM,h2];omega
theorem JM(v k:Int)(l:List Pr):(gP v k l).length<=131075004:=by
 unfold gP;split
 ·simp
 ·by_cases h:(aM k l).2=0
  ·exact(G6 k l h).2
  ·rw[Ix k l h];simp
theorem Mu(v:Int){p:Pk}(h:Ie p=true):(sbS v p).length<=132000000:=by
 have hl:=Mv h;unfold Ie at h;simp only[eh,Fx]at h;have h1:=MN p.kind p.filters;have h2:=JM v p.kind p.props;unfold sbS Bg cdL;simp only[List.length_append,eD,fM];omega
end
end Go.Proofs.YtbdgkkmbnahgiaaGreatDoor
