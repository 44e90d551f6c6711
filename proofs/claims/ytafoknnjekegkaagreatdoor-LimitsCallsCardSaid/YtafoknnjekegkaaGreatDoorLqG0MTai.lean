/- Parts: MTai, HdP. -/
import Derived.Test.YtafoknnjekegkaaGreatDoorLqG0MPubA
set_option maxRecDepth 10000
set_option maxHeartbeats 8000000
namespace Go.Proofs.YtafoknnjekegkaaGreatDoor
open Go.RowKit Go.Proofs.Tryz
variable {k v e i f:Int}{a gp gc:Nat}{t s:abO}{w x w':abP}{l:List Pr}{A:Option Addr}{r:Int×List Pr×Nat×Int}
def dg(k:Int)(t:abO)(a:Nat):Int×List Pr×Nat×Int:=
 if t.size<=a then(0,[],a,0)
 else if t.size=a+1 then((br t a 0 1:Nat),[],a+1,if br t a 0 1=0 then 5 else 0)
 else((br t a 0 1:Nat),(aZ k (t.extract (a+1) t.size)).1,a+1+(aZ k (t.extract (a+1) t.size)).2.1,
  if(aZ k (t.extract (a+1) t.size)).2.2≠0 then(aZ k (t.extract (a+1) t.size)).2.2 else if(aZ k (t.extract (a+1) t.size)).1.length=0 then 5 else 0)
def oG(k code:Int)(l:List Pr):List UInt8:=if code=0/\l.length=0 then []else Yk code.toNat 1++(if l.length=0 then []else(aM k l).1)
theorem AD(p:Pk):Fa p=oG p.kind p.code p.props:=rfl
theorem dZ{k:Nat}(h:a+k<=t.size):aH t a 0 k=(t.extract a (a+k),a+k,0):=by
 have b:=mH t a 0 k (.inr (by simp[jQ];omega));rw[<-b,sd h]
theorem kH{k:Nat}(h:¬a+k<=t.size):aH t a 0 k=(⟨#[]⟩,a,3):=by
 have b:jQ t a k=false:=by simp[jQ];omega
 unfold aH;rw[if_pos rfl,Fl (by rw[b];decide)]
theorem sc{k:Nat}{x rest:List UInt8}(h:(ls t).drop a=x++rest)(hx:x.length=k)(ha:a<=t.size):br t a 0 k=YZ x:=by
 have b:=congrArg List.length h;rw[bU,List.length_append,aN]at b;unfold br;rw[dZ (by omega),Ym,h,<-hx,List.take_left'];rfl
theorem iV(t:abO)(a:Nat)(e:Int):br t a e 1<256:=by
 unfold br;have c:=ka (ls (aH t a e 1).1);have b:(ls (aH t a e 1).1).length<=1:=by
  rw[aN];unfold aH;split
  ·split
   ·show(t.extract a (a+Int.toNat 1)).size<=1;rw[aj];omega
   ·exact ag _
  ·exact ag _
 have d:256^ (ls (aH t a e 1).1).length<=256^ 1:=df (by omega) b;omega
theorem abX(h:a+1<=t.size):(ls t).drop a=Yk (br t a 0 1) 1++(ls t).drop (a+1):=by
 unfold br;rw[show((1:Int))=((1:Nat):Int)from rfl,dZ h,pZ _ (by rw[aN,aj];omega),Ym,<-ab2,cg]
theorem lY(h:a+2<=t.size):(ls t).drop a=Yk (br t a 0 2) 2++(ls t).drop (a+2):=by
 unfold br;rw[show((2:Int))=((2:Nat):Int)from rfl,dZ h,lm _ (by rw[aN,aj];omega),Ym,<-ab2,cg]
theorem rM(_ha:a<=t.size)(h:(dg k t a).2.2.2=0)(hend:t.size<=(dg k t a).2.2.1):
  (ls t).drop a=oG k (dg k t a).1 (dg k t a).2.1/\(aM k (dg k t a).2.1).2=0:=by
 unfold dg at h hend⊢;by_cases c:t.size<=a
 ·rw[if_pos c]at h hend⊢;refine⟨?_,rfl⟩;rw[gF (by rw[aN];exact c)];rfl
 ·rw[Fl c]at h hend⊢;have b:=abX (t:=t) (a:=a) (by omega);by_cases d:t.size=a+1
  ·rw[if_pos d]at h hend⊢;refine⟨?_,rfl⟩;simp only at h⊢;have i:br t a 0 1≠0:=λx=>by rw[if_pos x]at h;cases h
   rw[b,gF (by rw[aN];omega)];unfold oG;rw[Fl (λx=>i (by have:=x.1;omega)),if_pos eC,dN]
  ·rw[Fl d]at h hend⊢;simp only at h hend⊢;have f:(aZ k (t.extract (a+1) t.size)).2.2=0:=aU.1 λx=>by rw[if_pos x]at h;exact x h
   rw[Fl (λx=>x f)]at h;have e:(aZ k (t.extract (a+1) t.size)).1.length≠0:=λx=>by rw[if_pos x]at h;cases h
   obtain⟨b1,b2,g⟩:=fd (kind:=k) (s:=t.extract (a+1) t.size) (l:=(aZ k (t.extract (a+1) t.size)).1) (n:=(aZ k (t.extract (a+1) t.size)).2.1) (by rw[<-f]);rw[lk]at g;refine⟨?_,b1⟩;unfold oG;rw[Fl (λx=>e x.2),Fl e,b,b2,ju,bt (by rw[bU,aN];omega)];rfl
theorem nN(ht:t.size<=140737488351232):∀p∈(dg k t a).2.1,qc p:=by
 unfold dg;split
 ·simp
 ·split
  ·simp
  ·exact iT (by rw[aj];omega)
def aP(k i c:Int)(l:List Pr):Pk:={pk0 with kind:=k,id:=i,code:=c,props:=l}
def abW(v k:Int)(t:abO):Int×List Pr×Nat×Int:=if v=5 then dg k t 2 else(0,[],2,0)
def gq(v k:Int)(s:abO):Pk:=aP k (br s 0 0 2:Nat) (abW v k s).1 (abW v k s).2.1
def fP(v k:Int)(s:abO):Int:=if(abW v k s).2.2.2≠0 then(abW v k s).2.2.2 else if(abW v k s).2.2.1<s.size then 5 else 0
def iW(v k:Int)(s:abO):Pk×Int:=
 if pe v k=false then(pk0,2)
 else if s.size<2 then(pk0,3)
 else if fP v k s≠0 then(pk0,fP v k s)
 else if eS v (gq v k s)≠0 then(pk0,eS v (gq v k s))
 else(gq v k s,0)
theorem AI(h:pe v k=true):v=4\/v=5:=(aR h).1
theorem AF(v k:Int)(s:abO):(iW v k s=(pk0,(iW v k s).2)/\(iW v k s).2≠0)\/
  ((iW v k s).2=0/\AckGood v (iW v k s).1/\(iW v k s).1.kind=k/\Yk (iW v k s).1.id.toNat 2++Fa (iW v k s).1=ls s):=by
 unfold iW;by_cases f:pe v k=false
 ·rw[if_pos f];exact .inl ⟨rfl,by decide⟩
 rw[Fl f];by_cases g:s.size<2
 ·rw[if_pos g];exact .inl ⟨rfl,by decide⟩
 rw[Fl g];by_cases b:fP v k s≠0
 ·rw[if_pos b];exact .inl ⟨rfl,b⟩
 rw[Fl b];by_cases e:eS v (gq v k s)≠0
 ·rw[if_pos e];exact .inl ⟨rfl,e⟩
 rw[Fl e];refine .inr ⟨rfl,AJ (aU.1 e),rfl,?_⟩;show Yk ((br s 0 0 2:Nat):Int).toNat 2++Fa (gq v k s)=ls s;have i:=lY (t:=s) (a:=0) (by omega);rw[Yl,bV]at i;rw[dN,i]
 congr 1
 have b:=aU.1 b;unfold fP at b;have d:(abW v k s).2.2.2=0:=aU.1 λx=>by rw[if_pos x]at b;exact x b
 rw[Fl (λx=>x d)]at b;have c:¬(abW v k s).2.2.1<s.size:=λx=>by rw[if_pos x]at b;cases b
 rw[AD];show oG k (abW v k s).1 (abW v k s).2.1=_;unfold abW at d c⊢;by_cases h:v=5
 ·rw[if_pos h]at d c⊢;exact(rM (by omega) d (by omega)).1.symm
 ·rw[Fl h]at d c⊢;rw[gF (by rw[aN];simp at c;omega)];rfl
theorem vT(hs:s.size<=140737488351232):∀p∈(gq v k s).props,qc p:=by
 show ∀p∈(abW v k s).2.1,qc p;unfold abW;split
 ·exact nN hs
 ·simp
theorem iw{c:Int}(h:∀p∈l,qc p)(hl:l.length<=140737488351232):PkOk (aP k i c l):=by
 refine⟨?_,h,?_,?_,?_⟩
 ·intro q a;cases a
 ·intro q a;cases a
 ·exact⟨ag _,ag _,ag _,ag _,ag _,ag _,ag _⟩
 ·exact⟨ag _,ag _,ag _,hl⟩
theorem nM(k:Int)(t:abO)(a:Nat):(dg k t a).2.1.length<=1000:=by
 unfold dg;split
 ·exact ag _
 ·split
  ·exact ag _
  ·show(aZ k (t.extract (a+1) t.size)).1.length<=1000;by_cases h:(aZ k (t.extract (a+1) t.size)).2.2=0
   ·exact kj h
   ·rw[fZ h];exact ag _
theorem Fb(hs:s.size<=140737488351232):PkOk (iW v k s).1:=by
 have b:PkOk (gq v k s):=by
  refine iw (vT hs) ?_;unfold abW;split
  ·have:=nM k s 2;omega
  ·exact ag _
 have a:PkOk pk0:=iw (k:=0) (i:=0) (c:=0) (l:=[]) (by simp) (by simp);unfold iW;split
 ·exact a
 ·split
  ·exact a
  ·split
   ·exact a
   ·split
    ·exact a
    ·exact b
section
attribute [local go_sem ↓] Go.wp_at_zero Go.wp_at_succ
theorem td(k i c c':Int)(l:List Pr)(h:Hs):(pkC (aP k i c l) h).setIfInBounds 21 (.int .i64 c')=pkC (aP k i c' l) h:=rfl
theorem uT(k i c:Int)(l l':List Pr)(A:Option Addr)(n:Nat)(h:Hs):(pkC (aP k i c l) h).setIfInBounds 24 (.slice A l'.length n)=pkC (aP k i c l') {h with props:=⟨A,n⟩}:=rfl
theorem zE{p:Pk}{h:Hs}(hp:Bk w gp PkT (pkC p h))(hc:Cur w gc t a e):gp≠gc:=by
 rintro rfl;have c:=hp;have b:=hc.1;unfold Bk at c b;rw[c]at b;simp only[aX,fc]at b;exact absurd b.2.1 (by decide)
abbrev SR(gp:Nat)(v:Value)(W x:abP):Prop:=x.cell? ⟨gp,0,none⟩=some v/\abQ W x
theorem SR.to{v:Value}{W:abP}(h:SR gp v W x):abQ W x:=h.2
theorem SR.below{v:Value}{W y:abP}(h:SR gp v W x)(hb:abQ x y):SR gp v W y:=
 ⟨(hb.cell (p:=⟨gp,0,none⟩) (eY x _ h.1)).trans h.1,Yf h.2 hb⟩
theorem fY{n:Int}(h:e≠0):aH t a e n=(⟨#[]⟩,a,e):=by
 unfold aH;rw[Fl h]
def pI(gp gc:Nat)(k i:Int)(t:abO)(r:Int×List Pr×Nat×Int)(w:abP)(e:Ending)(w':abP):Prop:=
 e= .returned (.tuple #[])/\∃A c,r.2.1.length<=c/\Rd w' w'.heap.size 4 A r.2.1.length (prs r.2.1)/\Bk w' gp PkT (pkC (aP k i r.1 r.2.1) {hs0 with props:=⟨A,c⟩})/\Cur w' gc t r.2.2.1 r.2.2.2/\Mods (two gp gc) w w'
theorem mD{c:Int}(hr:r=(c,[],a,e))(hp:Bk w' gp PkT (pkC (aP k i c []) hs0))(hc:Cur w' gc t a e)(hm:Mods (two gp gc) w w'):pI gp gc k i t r w (.returned (.tuple #[])) w':=by
 subst hr;exact⟨rfl,none,0,ac _,Rd.nil _ _ _ _,hp,hc,hm⟩
theorem Rd.other{B g:Nat}{t:TypeId}{cs:Array Value}(h:Rd w B 4 A l.length (prs l))(hbk:Bk w g t cs)(hcs:∀(i:Nat) (n:Int),cs[i]? ≠some (Value.int IntKind.u32 n))(hm:w.grownBy w' (some g))(hB:B<=w.heap.size):Rd w' B 4 A l.length (prs l):=by
 refine h.grown hm hB λb o e j c=>?_;subst c;have f:0<l.length:=by
  cases l with
  | nil=>exact absurd rfl j
  | cons=>simp
 obtain⟨k,m,d,_,_,a,_⟩:=h.atP f;rw[e]at d;cases d;rw[hbk.cell]at a;exact hcs _ _ a
theorem Yo(t:abO)(a:Nat)(e:Int):∀(i:Nat) (n:Int),(Am t a e)[i]? ≠some (Value.int IntKind.u32 n):=by
 intro i n;rcases i with _| _| _| i<;>simp[Am]
theorem dY(p:Pk)(h:Hs):∀(i:Nat) (n:Int),(pkC p h)[i]? ≠some (Value.int IntKind.u32 n):=by
 intro i n;rcases i with _| _| _| _| _| _| _| _| _| _| _| _| _| _| _| _| _| _| _| _| _| _| _| _| _| i<;>simp[pkC]
structure RJ (gp gc:Nat) (k i q:Int) (l:List Pr) (A:Option Addr) (t:abO) (a:Nat) (e:Int) (w x:abP):Prop where
 pk:Bk x gp PkT (pkC (aP k i q []) hs0)
 cur:Cur x gc t a e
 rd:Rd x x.heap.size 4 A l.length (prs l)
 mods:Mods (two gp gc) w x
 ne:gp≠gc
theorem RJ.turn{q:Int}{a':Nat}{e':Int}{y:abP}(h:RJ gp gc k i q l A t a e w x)(hc:Cur y gc t a' e')(hm:x.grownBy y (some gc)):RJ gp gc k i q l A t a' e' w y:=
 ⟨h.pk.mods (S:=λz=>z=gc) (qb hm rfl) h.ne,hc,(h.rd.other h.cur.1 (Yo _ _ _) hm (ac _)).wider hm.size,h.mods.trans (qb hm (.inr rfl)),h.ne⟩
theorem RJ.fin{q:Int}{c:Nat}(h:RJ gp gc k i q l A t a e w x)(hr:r=(q,l,a,e))(hc:l.length<=c):
  pI gp gc k i t r w (.returned (.tuple #[])) (x.setCell ⟨gp,24,none⟩ (.slice A l.length c)):=by
 subst hr;exact⟨rfl,A,c,hc,(h.rd.other h.pk (dY _ _) (YR x gp 24 _) (ac _)).wider (YR x gp 24 _).size,h.pk.upd 24 _ (uT k i q [] l A c hs0),⟨h.cur.1.other (Ne.symm h.ne) _,h.cur.2⟩,h.mods.set gp 24 (.inl (.inl rfl)) _⟩
theorem vQ(gp gc a:Nat)(t:abO)(k i:Int)(w:abP)(hp:Bk w gp PkT (pkC (aP k i 0 []) hs0))(hc:Cur w gc t a 0)(ht:t.size<=140737488351232):
  Calls prog 158 #[.pointer (some ⟨gp,0,none⟩),.pointer (some ⟨gc,0,none⟩)] w (pI gp gc k i t (dg k t a) w):=by
 have ak:=zE hp hc;have V:=hc.2.1;have B:=aa hp;have y:=aa hc;have HT:=aa ht;have K:=aa ak
 clear hp hc ht ak;by_cases L:t.size<=a
 ·have r:Hid (dg k t a=(0,[],a,0)):=aa (by unfold dg;rw[if_pos L]);have z0:(((t.size- a:Nat):Int)==0)=true:=aK.2 (by omega);clear L V;go_enter func158,ntmps158;go_wp2_with fail;refine Yg (eI gc a t 0 _ y.o) λw1 d=>?_;have HB:=aa d;clear d
  go_wp2
  go_end0
  exact mD r.o (Yh B.o HB.o) (y.o.below HB.o) (qk HB.o)
 focus
  have Y:Hid (aH t a 0 1=(t.extract a (a+1),a+1,0)):=aa (dZ (k:=1) (by omega));have z0:(((t.size- a:Nat):Int)==0)=false:=ar.2 (by omega);have aj:=aa (iV t a 0);by_cases h2:t.size=a+1
  ·have r:Hid (dg k t a=(((br t a 0 1:Nat):Int),[],a+1,if br t a 0 1=0 then 5 else 0)):=aa (by unfold dg;rw[Fl L,if_pos h2]);have z1:(((t.size- (a+1):Nat):Int)==0)=true:=aK.2 (by omega);clear L h2 V;go_enter func158,ntmps158;go_wp2_with fail;refine Yg (eI gc a t 0 _ y.o) λw1 d=>?_;have F:=aa (y.o.below d);have H:=aa (Yh B.o d);have Z:=aa (qk (S:=two gp gc) d);clear d
   go_wp2_with fail;refine(dR gc a t 0 1 _ F.o (by decide)).mono ?_;rintro e X ⟨rfl,hc,b⟩;rw[Y.o]at hc;have f:=aa (H.o.mods (S:=λx=>x=gc) (qb b rfl) K.o);have j:=aa hc;have M2:=aa (Z.o.trans (qb b (.inr rfl)))
   clear hc b Y;generalize br t a 0 1=q at*;have hw:IntKind.i64.wrap (q:Int)=(q:Int):=by rw[aQ];have:=aj.o;omega
   have k2:X.cell? ⟨gp,21,none⟩=some (.int .i64 0):=f.o.cell 21;have f2:=f.o.free 21;have p:=aa (f.o.upd 21 (.int .i64 q) (td k i 0 q [] hs0));have m:Hid (Cur (X.setCell ⟨gp,21,none⟩ (.int .i64 q)) gc t (a+1) 0):=aa ⟨j.o.1.other (Ne.symm K.o) _,j.o.2⟩;have M3:=aa (M2.o.set gp 21 (.inl (.inl rfl)) (.int .i64 q));go_wp2_with fail;refine Yg (eI gc (a+1) t 0 _ m.o) λE d=>?_;have o:=aa (m.o.below d);have g:=aa (Yh p.o d);have T:=aa (M3.o.trans (qk d));clear d k2 f2
   have W:E.cell? ⟨gp,21,none⟩=some (.int .i64 q):=g.o.cell 21;by_cases hq:q=0
   ·have z2:((q:Int)==0)=true:=aK.2 (by omega);have u:Hid (dg k t a=((q:Int),[],a+1,5)):=aa (by rw[r.o,if_pos hq]);clear hq;go_wp2_with fail;refine(cB gc (a+1) t 0 5 _ o.o).mono ?_;rintro e w4 ⟨rfl,hc,b⟩;rw[if_pos rfl]at hc;have I:=aa (g.o.mods (S:=λx=>x=gc) (qb b rfl) K.o);have G:=aa hc;have M5:=aa (T.o.trans (qb b (.inr rfl)))
    clear hc b W;go_wp2
    go_end0
    exact mD u.o I.o G.o M5.o
   ·have z2:((q:Int)==0)=false:=ar.2 (by omega);have u:Hid (dg k t a=((q:Int),[],a+1,0)):=aa (by rw[r.o,Fl hq]);clear hq;go_wp2
    go_end0
    exact mD u.o g.o o.o T.o
  focus
   have r:Hid (dg k t a=(((br t a 0 1:Nat):Int),(aZ k (t.extract (a+1) t.size)).1,a+1+(aZ k (t.extract (a+1) t.size)).2.1,
    if(aZ k (t.extract (a+1) t.size)).2.2≠0 then(aZ k (t.extract (a+1) t.size)).2.2 else if(aZ k (t.extract (a+1) t.size)).1.length=0 then 5 else 0)):=aa (by unfold dg;rw[Fl L,Fl h2])
   have z1:(((t.size- (a+1):Nat):Int)==0)=false:=ar.2 (by omega);have HZ:Hid ((t.extract (a+1) t.size).size<=140737488351232):=aa (by rw[lk];have:=HT.o;omega);have az:Hid (a+1+(t.extract (a+1) t.size).size=t.size):=aa (by rw[lk];omega);clear L h2 V;go_enter func158,ntmps158;go_wp2_with fail;refine Yg (eI gc a t 0 _ y.o) λw1 d=>?_;have F:=aa (y.o.below d);have H:=aa (Yh B.o d);have Z:=aa (qk (S:=two gp gc) d);clear d
   go_wp2_with fail;refine(dR gc a t 0 1 _ F.o (by decide)).mono ?_;rintro e X ⟨rfl,hc,b⟩;rw[Y.o]at hc;have f:=aa (H.o.mods (S:=λx=>x=gc) (qb b rfl) K.o);have j:=aa hc;have M2:=aa (Z.o.trans (qb b (.inr rfl)))
   clear hc b Y;generalize br t a 0 1=q at*;have hw:IntKind.i64.wrap (q:Int)=(q:Int):=by rw[aQ];have:=aj.o;omega
   have k2:X.cell? ⟨gp,21,none⟩=some (.int .i64 0):=f.o.cell 21;have f2:=f.o.free 21;have p:=aa (f.o.upd 21 (.int .i64 q) (td k i 0 q [] hs0));have m:Hid (Cur (X.setCell ⟨gp,21,none⟩ (.int .i64 q)) gc t (a+1) 0):=aa ⟨j.o.1.other (Ne.symm K.o) _,j.o.2⟩;have M3:=aa (M2.o.set gp 21 (.inl (.inl rfl)) (.int .i64 q));go_wp2_with fail;refine Yg (eI gc (a+1) t 0 _ m.o) λE d=>?_;have o:=aa (m.o.below d);have g:=aa (Yh p.o d);have T:=aa (M3.o.trans (qk d));clear d k2 f2
   have W:E.cell? ⟨gp,0,none⟩=some (.int .i64 k):=g.o.cell 0;go_wp2_with fail
   go_region_held3 (λx=>x.cell? ⟨gp,0,none⟩=some (.int .i64 k)/\abQ E x)
    (first| exact⟨W,aV (aq _ _) _⟩ | exact SR.below (by assumption) aB| exact SR.below (by assumption) aA| go_keep)
    (first| (go_at_call 165;refine(jG gc (a+1) t 0 _ (o.o.below (SR.to (by assumption)))).mono ?_;rintro e x1 ⟨rfl,aB⟩)
          | (go_at_call 164;refine(Zf k _ _ HZ.o).mono ?_;rintro e x2 ⟨A,c,rfl,U,am,aA⟩))
   have J:abQ E x2:=(SR.to (gp:=gp) (v:=.int .i64 k) (by assumption));have G:=aa (o.o.below J);have I:=aa (Yh g.o J);have M5:=aa (T.o.trans (qk J))
   have z:=aa U;have N:=aa am
   have ai:Hid ((aZ k (t.extract (a+1) t.size)).2.2=0->(aZ k (t.extract (a+1) t.size)).2.1<=(t.extract (a+1) t.size).size):=aa λh0=>
    (fd (kind:=k) (s:=t.extract (a+1) t.size) (l:=(aZ k (t.extract (a+1) t.size)).1) (n:=(aZ k (t.extract (a+1) t.size)).2.1) (by rw[<-h0])).2.2
   have M:Hid ((aZ k (t.extract (a+1) t.size)).2.2≠0->(aZ k (t.extract (a+1) t.size)).1=[]/\(aZ k (t.extract (a+1) t.size)).2.1=0):=aa λh0=>by rw[fZ h0];exact⟨rfl,rfl⟩
   clear J U am;generalize aZ k (t.extract (a+1) t.size)=R at*;obtain⟨l,n,x⟩:=R;simp only at r ai M z N;have P:Hid (RJ gp gc k i q l A t (a+1) 0 w x2):=aa ⟨I.o,G.o,N.o,M5.o,K.o⟩;clear I G N M5 g o T p m M3 f j M2 H F Z B y;simp only;by_cases D:x=0
   focus
    have O:Hid (aH t (a+1) 0 n=(t.extract (a+1) (a+1+n),a+1+n,0)):=aa (dZ (by have:=ai.o D;have:=az.o;omega));subst D;have f5:x2.cell? ⟨gp,24,none⟩=some (.slice none 0 0):=P.o.pk.cell 24;clear W;go_wp2_with fail;refine(cB gc (a+1) t 0 0 _ P.o.cur).mono ?_;rintro e w4 ⟨rfl,hc,b⟩;rw[if_pos rfl]at hc;have Q:=aa (P.o.turn hc b);clear hc b f5
    go_wp2_with fail;refine(eo gc (a+1) t 0 n _ Q.o.cur).mono ?_;rintro e w5 ⟨rfl,hc,b⟩;rw[O.o]at hc⊢;have C:=aa (Q.o.turn hc b);clear hc b
    by_cases hl:l.length=0
    focus
     have z2:((l.length:Int)==0)=true:=aK.2 (by omega);have u:Hid (dg k t a=((q:Int),l,a+1+n,5)):=aa (by rw[r.o,Fl (by decide),if_pos hl]);clear hl;go_wp2_with fail;refine(cB gc (a+1+n) t 0 5 _ C.o.cur).mono ?_;rintro e w6 ⟨rfl,hc,b⟩;rw[if_pos rfl]at hc
    rotate_left
    ·have z2:((l.length:Int)==0)=false:=ar.2 (by omega);have u:Hid (dg k t a=((q:Int),l,a+1+n,0)):=aa (by rw[r.o,Fl (by decide),Fl hl]);clear hl;have f8:w5.cell? ⟨gp,24,none⟩=some (.slice none 0 0):=C.o.pk.cell 24;have g8:=C.o.pk.free 24;go_wp2
     go_end0
     exact C.o.fin u.o z.o
   rotate_left
   focus
    have aC:=M.o D;obtain⟨rfl,rfl⟩:=aC;have O:=aa (fY (t:=t) (a:=a+1) (n:=((0:Nat):Int)) D);have u:Hid (dg k t a=((q:Int),[],a+1,x)):=aa (by rw[r.o,if_pos D]);have z2:((([]:List Pr).length:Int)==0)=true:=rfl;have ay:=aa D;clear D W;go_wp2_with fail;refine(cB gc (a+1) t 0 x _ P.o.cur).mono ?_;rintro e w4 ⟨rfl,hc,b⟩;rw[if_pos rfl]at hc;have Q:=aa (P.o.turn hc b);clear hc b
    go_wp2_with fail;refine(eo gc (a+1) t x 0 _ Q.o.cur).mono ?_;rintro e w5 ⟨rfl,hc,b⟩;have ao:Hid (aH t (a+1) x 0=(⟨#[]⟩,a+1,x)):=O;rw[ao.o]at hc⊢;have C:=aa (Q.o.turn hc b);clear hc b
    go_wp2_with fail;refine(cB gc (a+1) t x 5 _ C.o.cur).mono ?_;rintro e w6 ⟨rfl,hc,b⟩;have HF:Hid ((if x=0 then 5 else x)=x):=aa (by by_cases h:x=0; ·subst h;exact absurd rfl ay.o
                                                                                                                                       ·rw[Fl h])
    rw[HF.o]at hc
   rotate_left
  rotate_left 2
 rotate_left 2
 all_goals
  have J8:=aa (C.o.turn hc b);clear hc b
  have f8:w6.cell? ⟨gp,24,none⟩=some (.slice none 0 0):=J8.o.pk.cell 24;have g8:=J8.o.pk.free 24;go_wp2
  go_end0
  exact J8.o.fin u.o z.o
end
section
theorem qs{B:Nat}{n:Nat}(h:Rd w B 4 A l.length (prs l))(hn:l.length<=n)(k i c:Int):PkIn w B (aP k i c l) {hs0 with props:=⟨A,n⟩}:=
 ⟨Rd.nil _ _ _ _,Rd.nil _ _ _ _,Rd.nil _ _ _ _,h,ag _,ag _,ag _,hn⟩
structure RI (w:abP) (g gp gc:Nat) (k i c:Int) (l:List Pr) (A:Option Addr) (n:Nat) (t:abO) (a:Nat) (e:Int) (x:abP):Prop where
 kept:abQ w x
 res:Bk x g PkT (pkC pk0 hs0)
 pk:Bk x gp PkT (pkC (aP k i c l) {hs0 with props:=⟨A,n⟩})
 cur:Cur x gc t a e
 rd:Rd x x.heap.size 4 A l.length (prs l)
 cap:l.length<=n
 ne:g≠gp/\g≠gc/\gp≠gc
 base:w.heap.size<=g/\w.heap.size<=gp/\w.heap.size<=gc
section
variable {w x y:abP} {g gp gc:Nat} {k i c:Int} {l:List Pr} {A:Option Addr} {n:Nat} {t:abO} {a a':Nat} {e e':Int}
theorem RI.below(h:RI w g gp gc k i c l A n t a e x)(hb:abQ x y):RI w g gp gc k i c l A n t a e y:=
 ⟨Yf h.kept hb,Yh h.res hb,Yh h.pk hb,h.cur.below hb,(h.rd.below hb).wider hb.size,h.cap,h.ne,h.base⟩
theorem RI.turn(h:RI w g gp gc k i c l A n t a e x)(hc:Cur y gc t a' e')(hm:x.grownBy y (some gc)):RI w g gp gc k i c l A n t a' e' y:=
 ⟨dw h.kept hm h.kept.size h.base.2.2,h.res.mods (S:=λz=>z=gc) (qb hm rfl) h.ne.2.1,h.pk.mods (S:=λz=>z=gc) (qb hm rfl) h.ne.2.2,hc,
  (h.rd.other h.cur.1 (Yo _ _ _) hm (ac _)).wider hm.size,h.cap,h.ne,h.base⟩
theorem RI.rest{ee:Ending}(h:RI w g gp gc k i 0 [] none 0 t a e x)(hr:pI gp gc k i t r x ee y):ee= .returned (.tuple #[])/\∃A n,RI w g gp gc k i r.1 r.2.1 A n t r.2.2.1 r.2.2.2 y:=by
 obtain⟨d,A,n,f,j,l,m,c⟩:=hr;refine⟨d,A,n,⟨Mods.below h.kept c h.kept.size (λz b=>b.elim (λe=>by rw[e];exact h.base.2.1) (λe=>by rw[e];exact h.base.2.2)),h.res.mods c (λb=>b.elim h.ne.1 h.ne.2.1),l,m,j,f,h.ne,h.base⟩⟩
theorem RI.into(h:RI w g gp gc k i c l A n t a e x):PkIn x x.heap.size (aP k i c l) {hs0 with props:=⟨A,n⟩}:=qs h.rd h.cap k i c
theorem RI.none(h:RI w g gp gc k i c l A n t a e x):abQ w (dE x g pk0 hs0)/\Bk (dE x g pk0 hs0) g PkT (pkC pk0 hs0):=⟨YQ h.kept h.kept.size h.base.1 _ _,cO h.res _ _⟩
theorem RI.some(h:RI w g gp gc k i c l A n t a e x):abQ w (dE x g (aP k i c l) {hs0 with props:=⟨A,n⟩})/\Bk (dE x g (aP k i c l) {hs0 with props:=⟨A,n⟩}) g PkT (pkC (aP k i c l) {hs0 with props:=⟨A,n⟩})/\
  PkIn (dE x g (aP k i c l) {hs0 with props:=⟨A,n⟩}) (dE x g (aP k i c l) {hs0 with props:=⟨A,n⟩}).heap.size (aP k i c l) {hs0 with props:=⟨A,n⟩}:=
 ⟨YQ h.kept h.kept.size h.base.1 _ _,cO h.res _ _,qs ((h.rd.other h.res (dY _ _) (cJ _ _ _ _) (ac _)).wider (cJ _ _ _ _).size) h.cap k i c⟩
end
def mu(r:Pk×Int)(w:abP)(e:Ending)(w':abP):Prop:=∃h,e= .returned (.tuple #[pkV r.1 h,.int .i64 r.2])/\PkIn w' w'.heap.size r.1 h/\abQ w w'
theorem YY{r:Pk×Int}{x:Int}(h:r=(pk0,x))(hb:abQ w w'):mu r w (.returned (.tuple #[pkV pk0 hs0,.int .i64 x])) w':=by
 subst h;exact⟨hs0,rfl,⟨Rd.nil _ _ _ _,Rd.nil _ _ _ _,Rd.nil _ _ _ _,Rd.nil _ _ _ _,ag _,ag _,ag _,ag _⟩,hb⟩
theorem fo{r:Pk×Int}{p:Pk}{h:Hs}(hr:r=(p,0))(hi:PkIn w' w'.heap.size p h)(hb:abQ w w'):mu r w (.returned (.tuple #[pkV p h,.int .i64 0])) w':=by
 subst hr;exact⟨h,rfl,hi,hb⟩
theorem Zo{n:Int}:(if e=0 then n else e)=if e≠0 then e else n:=by
 by_cases h:e=0
 ·rw[if_pos h,Fl (λx=>x h)]
 ·rw[Fl h,if_pos h]
theorem gU(t:abO)(a:Nat)(e:Int)(ha:a<=t.size):br t a e 2<65536:=by
 unfold br;have c:=ka (ls (aH t a e 2).1);have b:(ls (aH t a e 2).1).length<=2:=by
  rw[aN];exact kI ha e 2 2 (by decide)
 have d:256^ (ls (aH t a e 2).1).length<=256^ 2:=df (by omega) b;omega
theorem AH(hk:pe v k=true)(h2:¬s.size<2):
  ((if fP v k s=0 then eS v (gq v k s)else fP v k s)=0/\iW v k s=(gq v k s,0))\/((if fP v k s=0 then eS v (gq v k s)else fP v k s)≠0/\iW v k s=(pk0,(if fP v k s=0 then eS v (gq v k s)else fP v k s))):=by
 have c:iW v k s=if fP v k s≠0 then(pk0,fP v k s)else if eS v (gq v k s)≠0 then(pk0,eS v (gq v k s))else(gq v k s,0):=by
  unfold iW;rw[Fl (λx=>by rw[hk]at x;cases x),Fl h2]
 rw[c];by_cases a:fP v k s=0
 ·rw[if_pos a,Fl (λx=>x a)];by_cases b:eS v (gq v k s)=0
  ·rw[Fl (λx=>x b)];exact .inl ⟨b,rfl⟩
  ·rw[if_pos b];exact .inr ⟨b,rfl⟩
 ·rw[Fl a,if_pos a];exact .inr ⟨a,rfl⟩
theorem vS(k i:Int):({pk0 with kind:=k,id:=i}:Pk)=aP k i 0 []:=rfl
theorem vR(v k:Int)(s:abO)(w:abP)(hs:s.size<=140737488351232):
  Calls prog 103 #[.int .i64 v,.int .i64 k,.string s] w (mu (iW v k s) w):=by
 have HS:=aa hs;have ae:=aa ((aq w.heap.size w).alloc (ac _) (.cells (pkC pk0 hs0) PkT));have ad:=aa (Bk.fresh w PkT (pkC pk0 hs0));go_enter func103,ntmps103;go_wp2_with fail;refine(Ys v k _).mono ?_;rintro e w1 ⟨rfl,rfl⟩;cases hk:pe v k
 ·have HX:Hid (iW v k s=(pk0,2)):=aa (by unfold iW;rw[if_pos hk]);clear hk;go_wp2;refine abZ (aI rfl _ rfl ad.o) rfl ?_;exact YY HX.o ae.o
 have HK:=aa hk;clear hk;go_wp2_with fail;refine(jL s _ (by have:=HS.o;omega)).mono ?_;rintro e w1 ⟨rfl,b,i⟩;have an:(w.alloc (.cells (pkC pk0 hs0) PkT)).heap.size=w.heap.size+1:=by simp
 have ai:=aa (Yf ae.o i);have aB:=aa (Yh ad.o i)
 rw[an]at b⊢;have aD:=aa b;clear b i an;go_wp2_with fail;refine(dR (w.heap.size+1) 0 s 0 2 _ aD.o (by decide)).mono ?_;rintro e O ⟨rfl,b,j⟩;have aj:=aa (dw ai.o j ai.o.size (by omega));have aC:=aa (aB.o.mods (S:=λz=>z=w.heap.size+1) (qb j rfl) (by omega));have P:=aa b
 have HZ:=aa P.o.lt;have aG:=gU s 0 0 (by omega);have H:Hid (gq v k s=aP k (br s 0 0 2:Nat) (abW v k s).1 (abW v k s).2.1):=aa rfl;have aE:Hid (s.size<2->br s 0 0 2=0):=aa λh=>by
  unfold br;rw[show((2:Int))=((2:Nat):Int)from rfl,kH (by omega)];rfl
 clear b j;generalize br s 0 0 2=m at*;obtain⟨f,Z⟩:∃f:Int,f=(m:Int):=⟨_,rfl⟩;have hw:IntKind.i64.wrap (m:Int)=f:=by rw[Z,aQ];omega
 rw[<-Z]at H;have HM:=aa Z;clear aG Z;have I3:Hid (∀e a,Cur O (w.heap.size+1) s a e->RI w w.heap.size O.heap.size (w.heap.size+1) k f 0 [] none 0 s a e (O.alloc (.cells (pkC (aP k f 0 []) hs0) PkT))):=aa λe a b=>
  ⟨aj.o.alloc aj.o.size _,aC.o.alloc _,Bk.fresh _ _ _,⟨b.1.alloc _,b.2⟩,Rd.nil _ _ _ _,ac _,⟨by have:=HZ.o;omega,by omega,by have:=HZ.o;omega⟩,ac _,by have:=HZ.o;omega,by omega⟩
 have am:=AI HK.o;by_cases N:s.size<2
 focus
  have HT:Hid (aH s 0 0 2=(⟨#[]⟩,0,3)):=aa (kH (k:=2) (by omega));obtain⟨d,K⟩:∃e:Int,e=3:=⟨3,rfl⟩;have C:=P.o;rw[HT.o]at C
  replace C:Cur O (w.heap.size+1) s 0 d:=K▸C
  have aF:f=0:=by rw[HM.o,aE.o N];rfl
  have L:Hid (((if d=0 then eS v (aP k f 0 [])else d)=0/\iW v k s=(aP k f 0 [],0))\/((if d=0 then eS v (aP k f 0 [])else d)≠0/\iW v k s=(pk0,(if d=0 then eS v (aP k f 0 [])else d)))):=aa (by
   rw[Fl (by omega)];refine .inr ⟨by omega,?_⟩;subst K;unfold iW;rw[Fl (by rw[HK.o];decide),if_pos N])
  have G:Hid (PkOk (aP k f 0 [])):=aa (iw (by simp) (by simp));have I:=aa (I3.o d 0 C);have e3:(d==0)=false:=ar.2 (by omega);clear C P aF I3 N;obtain⟨g,r⟩:∃E:Int,E=d:=⟨d,rfl⟩;have F:Hid (g=if d≠0 then d else if 0<s.size then 5 else 0):=aa (by rw[r,if_pos (by omega)]);rw[<-r]at L;clear r K;rcases am with h4| h5
  focus
   have e5:(v==5)=false:=ar.2 (by omega);clear h4;go_wp2_with fail;refine Yg (eI _ 0 s d _ I.o.cur) λW i=>?_;have J:=aa (I.o.below i);clear i
   by_cases p:0<s.size
   focus
    have T:(0:Int)<((s.size- 0:Nat):Int):=by omega
    have t:Hid ((if d=0 then 5 else d)=g):=aa (by rw[F.o,Zo,if_pos p]);clear p;go_wp2_with fail;refine(cB _ 0 s d 5 _ J.o.cur).mono ?_;rintro q wF ⟨rfl,b,j⟩;rw[t.o]at b;have o:=aa (J.o.turn b j);clear b j
    have D:=cf o.o.pk;go_wp2_with fail;refine Yg (fb v (aP k f 0 []) _ _ o.o.into G.o) λX i=>?_;have u:=aa (o.o.below i);clear i D
    go_wp2_with fail;refine(cB _ 0 s g (eS v (aP k f 0 [])) _ u.o.cur).mono ?_;rintro q V ⟨rfl,b,j⟩;have y:=aa (u.o.turn b j);clear b j
    have B:=L;generalize (if g=0 then eS v (aP k f 0 [])else g)=E2 at*;go_wp2_with fail;refine(dG _ 0 s E2 _ y.o.cur).mono ?_
   rotate_left
   focus
    have T:((s.size- 0:Nat):Int)<=0:=by omega
    have t:Hid (d=g):=aa (by
     rw[F.o];by_cases h:d=0
     ·rw[Fl (λx=>x h),Fl p,h]
     ·rw[if_pos h])
    have o:Hid (RI w w.heap.size O.heap.size (w.heap.size+1) k f 0 [] none 0 s 0 g W):=aa (t.o▸J.o);clear p;have D:=cf o.o.pk;go_wp2_with fail;refine Yg (fb v (aP k f 0 []) _ _ o.o.into G.o) λX i=>?_;have u:=aa (o.o.below i);clear i D
    go_wp2_with fail;refine(cB _ 0 s g (eS v (aP k f 0 [])) _ u.o.cur).mono ?_;rintro q V ⟨rfl,b,j⟩;have y:=aa (u.o.turn b j);clear b j
    have B:=L;generalize (if g=0 then eS v (aP k f 0 [])else g)=E2 at*;go_wp2_with fail;refine(dG _ 0 s E2 _ y.o.cur).mono ?_
   rotate_left
  rotate_left 2
  focus
   have e5:(v==5)=true:=aK.2 h5;clear h5;go_wp2_with fail;rw[vS];refine(dG _ 0 s d _ I.o.cur).mono ?_;rintro q wE ⟨rfl,rfl⟩;go_wp2_with fail;refine Yg (eI _ 0 s d _ I.o.cur) λW i=>?_;have J:=aa (I.o.below i);clear i
   by_cases p:0<s.size
   focus
    have T:(0:Int)<((s.size- 0:Nat):Int):=by omega
    have t:Hid ((if d=0 then 5 else d)=g):=aa (by rw[F.o,Zo,if_pos p]);clear p;go_wp2_with fail;refine(cB _ 0 s d 5 _ J.o.cur).mono ?_;rintro q wF ⟨rfl,b,j⟩;rw[t.o]at b;have o:=aa (J.o.turn b j);clear b j
    have D:=cf o.o.pk;go_wp2_with fail;refine Yg (fb v (aP k f 0 []) _ _ o.o.into G.o) λX i=>?_;have u:=aa (o.o.below i);clear i D
    go_wp2_with fail;refine(cB _ 0 s g (eS v (aP k f 0 [])) _ u.o.cur).mono ?_;rintro q V ⟨rfl,b,j⟩;have y:=aa (u.o.turn b j);clear b j
    have B:=L;generalize (if g=0 then eS v (aP k f 0 [])else g)=E2 at*;go_wp2_with fail;refine(dG _ 0 s E2 _ y.o.cur).mono ?_
   rotate_left
   focus
    have T:((s.size- 0:Nat):Int)<=0:=by omega
    have t:Hid (d=g):=aa (by
     rw[F.o];by_cases h:d=0
     ·rw[Fl (λx=>x h),Fl p,h]
     ·rw[if_pos h])
    have o:Hid (RI w w.heap.size O.heap.size (w.heap.size+1) k f 0 [] none 0 s 0 g W):=aa (t.o▸J.o);clear p;have D:=cf o.o.pk;go_wp2_with fail;refine Yg (fb v (aP k f 0 []) _ _ o.o.into G.o) λX i=>?_;have u:=aa (o.o.below i);clear i D
    go_wp2_with fail;refine(cB _ 0 s g (eS v (aP k f 0 [])) _ u.o.cur).mono ?_;rintro q V ⟨rfl,b,j⟩;have y:=aa (u.o.turn b j);clear b j
    have B:=L;generalize (if g=0 then eS v (aP k f 0 [])else g)=E2 at*;go_wp2_with fail;refine(dG _ 0 s E2 _ y.o.cur).mono ?_
   rotate_left
  rotate_left 2
 rotate_left 4
 focus
  have HT:Hid (aH s 0 0 2=(s.extract 0 2,2,0)):=aa (dZ (k:=2) (by omega));obtain⟨d,K⟩:∃e:Int,e=0:=⟨0,rfl⟩;have C:=P.o;rw[HT.o]at C
  replace C:Cur O (w.heap.size+1) s 2 d:=K▸C
  have Y:=aa (AH HK.o N);have I:=aa (I3.o d 2 C);clear C P I3;rcases am with h4| h5
  focus
   have e5:(v==5)=false:=ar.2 (by omega);have U:abW v k s=(0,[],2,0):=by unfold abW;rw[Fl (by omega)]
   rw[U]at H;obtain⟨g,r⟩:∃E:Int,E=fP v k s:=⟨_,rfl⟩;have F:Hid (g=if d≠0 then d else if 2<s.size then 5 else 0):=aa (by rw[r,K];unfold fP;rw[U]);have M:=Y.o;rw[<-r,H.o]at M;have L:=aa M;have G:Hid (PkOk (aP k f 0 [])):=aa (iw (by simp) (by simp));clear h4 r M U H Y N K;go_wp2_with fail;refine Yg (eI _ 2 s d _ I.o.cur) λW i=>?_;have J:=aa (I.o.below i);clear i
   by_cases p:2<s.size
   focus
    have T:(0:Int)<((s.size- 2:Nat):Int):=by omega
    have t:Hid ((if d=0 then 5 else d)=g):=aa (by rw[F.o,Zo,if_pos p]);clear p;go_wp2_with fail;refine(cB _ 2 s d 5 _ J.o.cur).mono ?_;rintro q wF ⟨rfl,b,j⟩;rw[t.o]at b;have o:=aa (J.o.turn b j);clear b j
    have D:=cf o.o.pk;go_wp2_with fail;refine Yg (fb v (aP k f 0 []) _ _ o.o.into G.o) λX i=>?_;have u:=aa (o.o.below i);clear i D
    go_wp2_with fail;refine(cB _ 2 s g (eS v (aP k f 0 [])) _ u.o.cur).mono ?_;rintro q V ⟨rfl,b,j⟩;have y:=aa (u.o.turn b j);clear b j
    have B:=L;generalize (if g=0 then eS v (aP k f 0 [])else g)=E2 at*;go_wp2_with fail;refine(dG _ 2 s E2 _ y.o.cur).mono ?_
   rotate_left
   focus
    have T:((s.size- 2:Nat):Int)<=0:=by omega
    have t:Hid (d=g):=aa (by
     rw[F.o];by_cases h:d=0
     ·rw[Fl (λx=>x h),Fl p,h]
     ·rw[if_pos h])
    have o:Hid (RI w w.heap.size O.heap.size (w.heap.size+1) k f 0 [] none 0 s 2 g W):=aa (t.o▸J.o);clear p;have D:=cf o.o.pk;go_wp2_with fail;refine Yg (fb v (aP k f 0 []) _ _ o.o.into G.o) λX i=>?_;have u:=aa (o.o.below i);clear i D
    go_wp2_with fail;refine(cB _ 2 s g (eS v (aP k f 0 [])) _ u.o.cur).mono ?_;rintro q V ⟨rfl,b,j⟩;have y:=aa (u.o.turn b j);clear b j
    have B:=L;generalize (if g=0 then eS v (aP k f 0 [])else g)=E2 at*;go_wp2_with fail;refine(dG _ 2 s E2 _ y.o.cur).mono ?_
   rotate_left
  rotate_left 2
  focus
   have e5:(v==5)=true:=aK.2 h5;have U:abW v k s=dg k s 2:=by unfold abW;rw[if_pos h5]
   rw[U]at H;obtain⟨g,r⟩:∃E:Int,E=fP v k s:=⟨_,rfl⟩;have ak:Hid (g=if(dg k s 2).2.2.2≠0 then(dg k s 2).2.2.2 else if(dg k s 2).2.2.1<s.size then 5 else 0):=aa (by rw[r];unfold fP;rw[U]);have M:=Y.o;rw[<-r,H.o]at M;have B:=aa M;have af:Hid (PkOk (aP k f (dg k s 2).1 (dg k s 2).2.1)):=aa (iw (nN HS.o) (by have:=nM k s 2;omega));clear h5 r M U H Y N;subst K;go_wp2_with fail;rw[vS];refine(dG _ 2 s 0 _ I.o.cur).mono ?_;rintro q wE ⟨rfl,rfl⟩;go_wp2_with fail;refine(vQ _ _ 2 s k f _ I.o.pk I.o.cur HS.o).mono ?_;rintro q wR Q;obtain⟨rfl,A,n,hI⟩:=I.o.rest Q;generalize dg k s 2=R at*;obtain⟨c,l,a,d⟩:=R;simp only at ak B af hI;have F:=ak;have L:=B;have G:=af
   have I:=aa hI;clear hI Q;go_wp2_with fail;refine Yg (eI _ a s d _ I.o.cur) λW i=>?_;have J:=aa (I.o.below i);clear i
   by_cases p:a<s.size
   focus
    have T:(0:Int)<((s.size- a:Nat):Int):=by omega
    have t:Hid ((if d=0 then 5 else d)=g):=aa (by rw[F.o,Zo,if_pos p]);clear p;go_wp2_with fail;refine(cB _ a s d 5 _ J.o.cur).mono ?_;rintro q wF ⟨rfl,b,j⟩;rw[t.o]at b;have o:=aa (J.o.turn b j);clear b j
    have D:=cf o.o.pk;go_wp2_with fail;refine Yg (fb v (aP k f c l) _ _ o.o.into G.o) λX i=>?_;have u:=aa (o.o.below i);clear i D
    go_wp2_with fail;refine(cB _ a s g (eS v (aP k f c l)) _ u.o.cur).mono ?_;rintro q V ⟨rfl,b,j⟩;have y:=aa (u.o.turn b j);clear b j
    have B:=L;generalize (if g=0 then eS v (aP k f c l)else g)=E2 at*;go_wp2_with fail;refine(dG _ a s E2 _ y.o.cur).mono ?_
   rotate_left
   focus
    have T:((s.size- a:Nat):Int)<=0:=by omega
    have t:Hid (d=g):=aa (by
     rw[F.o];by_cases h:d=0
     ·rw[Fl (λx=>x h),Fl p,h]
     ·rw[if_pos h])
    have o:Hid (RI w w.heap.size O.heap.size (w.heap.size+1) k f c l A n s a g W):=aa (t.o▸J.o);clear p;have D:=cf o.o.pk;go_wp2_with fail;refine Yg (fb v (aP k f c l) _ _ o.o.into G.o) λX i=>?_;have u:=aa (o.o.below i);clear i D
    go_wp2_with fail;refine(cB _ a s g (eS v (aP k f c l)) _ u.o.cur).mono ?_;rintro q V ⟨rfl,b,j⟩;have y:=aa (u.o.turn b j);clear b j
    have B:=L;generalize (if g=0 then eS v (aP k f c l)else g)=E2 at*;go_wp2_with fail;refine(dG _ a s E2 _ y.o.cur).mono ?_
   rotate_left
  rotate_left 2
 rotate_left 4
 all_goals
  rintro q wH ⟨rfl,rfl⟩;have D:=cf y.o.pk;have aO:=aW y.o.res;rcases B.o with ⟨N,Q⟩ | ⟨N,Q⟩
  ·subst N;have HR:=aa Q;clear Q
   go_wp2;refine abZ (aI rfl _ rfl y.o.some.2.1) rfl ?_;exact fo HR.o y.o.some.2.2 y.o.some.1
  ·have e0:(E2 !=0)=true:=aA.2 N;have HR:=aa Q;clear Q N
   go_wp2;refine abZ (aI rfl _ rfl y.o.none.2) rfl ?_;exact YY HR.o y.o.none.1
end
def eu(k f:Int):Bool:=if k=3 then gd f else decide (f=gg k)
def ff(v k f:Int):Int:=if YG v=false then 2 else if dS v k=false then 8 else if eu k f=false then 7 else 0
structure Hdr where
 k:Int
 f:Int
 n:Nat
def lC:Hdr:=⟨0,0,0⟩
def Cx(h:Hdr):Value:=.agg #[.int .i64 h.k,.int .i64 h.f,.int .i64 h.n]
def YW(s:abO):Nat:=((ls s).headD 0).toNat
def hdR(v:Int)(s:abO):Hdr×Nat×Int:=
 if YG v=false then(lC,0,2)
 else if s.size=0 then(lC,0,3)
 else if ff v (YW s/ 16:Nat) (YW s% 16:Nat)≠0 then(lC,0,ff v (YW s/ 16:Nat) (YW s% 16:Nat))
 else if(YT (ls (s.extract 1 s.size))).2.2≠0 then(lC,0,(YT (ls (s.extract 1 s.size))).2.2)
 else(⟨(YW s/ 16:Nat),(YW s% 16:Nat),(YT (ls (s.extract 1 s.size))).1⟩,(YT (ls (s.extract 1 s.size))).2.1+1,0)
def hdS(k f:Int)(n:Nat):List UInt8:=Yk (16*k+f).toNat 1++eP n
theorem Zc:ff v k f=0↔YG v=true/\dS v k=true/\eu k f=true:=by
 unfold ff;cases YG v<;>cases dS v k<;>cases eu k f<;>simp
theorem vk(h:dS v k=true):1<=k/\k<=15:=by
 have:=aR h;omega
theorem rm(h:eu k f=true):0<=f/\f<=15:=by
 unfold eu at h;by_cases a:k=3
 ·rw[if_pos a]at h;have:=aR h;omega
 ·rw[Fl a]at h;have:=aR h;unfold gg at this;split at this<;>omega
theorem KO(f:Int):eu 3 f=gd f:=if_pos rfl
theorem jP(s:abO):ls (s.extract 1 s.size)=(ls s).drop 1:=by
 unfold ls;rw[Lib.extract_data,bt];rw[bU];show s.data.size- 1<=s.data.size- 1;exact ac _
theorem EC(k f:Int)(n:Nat):2<=(hdS k f n).length/\(hdS k f n).length<=5:=by
 unfold hdS;rw[List.length_append,fM];have a:0<(eP n).length:=by
  unfold eP ig;split<;>simp
 have b:(eP n).length<=4:=mO 3 n;omega
theorem ZT{n:Nat}(hc:ff v k f=0)(hn:n<=268435455){R:List UInt8}(hs:ls s=hdS k f n++R):
  hdR v s=(⟨k,f,n⟩,(hdS k f n).length,0):=by
 obtain⟨i,j,l⟩:=Zc.1 hc;have q:=vk j;have r:=rm l;obtain⟨a,m,p⟩:=D8 (16*k+f) (by omega) (by omega);have b:ls s=a :: (eP n++R):=by
  rw[hs];unfold hdS;rw[m];rfl
 have o:s.size≠0:=by
  intro h;have:=aN s;rw[b,h]at this;simp at this
 have c:YW s=a.toNat:=by
  unfold YW;rw[b];rfl
 have d:((YW s/ 16:Nat):Int)=k:=by rw[c];omega
 have e:((YW s% 16:Nat):Int)=f:=by rw[c];omega
 have g:YT (ls (s.extract 1 s.size))=(n,(eP n).length,0):=by
  rw[jP,b];exact Zp n hn R
 unfold hdR;rw[Fl (by rw[i];decide),Fl o,d,e,hc,g,Fl (by decide),Fl (λx=>x rfl)];have:(hdS k f n).length=(eP n).length+1:=by
  unfold hdS;rw[List.length_append,fM,Nat.add_comm]
 rw[this]
theorem kw{h:Hdr}(hr:hdR v s=(h,a,0)):
  ff v h.k h.f=0/\h.n<=268435455/\ls s=hdS h.k h.f h.n++(ls s).drop a/\a=(hdS h.k h.f h.n).length/\a<=s.size:=by
 unfold hdR at hr;split at hr
 ·simp at hr
 split at hr
 ·simp at hr
 rename_i t p;split at hr
 ·rename_i c;simp only[bG]at hr;exact absurd hr.2.2 c
 split at hr
 ·rename_i c e;simp only[bG]at hr;exact absurd hr.2.2 e
 rename_i c e;simp only[bG]at hr;obtain⟨rfl,rfl,-⟩:=hr;have i:ff v (YW s/ 16:Nat) (YW s% 16:Nat)=0:=il.1 c;have j:(YT (ls (s.extract 1 s.size))).2.2=0:=il.1 e;obtain⟨b1,b2,m⟩:=mE (l:=ls (s.extract 1 s.size)) (n:=(YT (ls (s.extract 1 s.size))).1) (k:=(YT (ls (s.extract 1 s.size))).2.1) (by rw[<-j]);have b:=jH (ls (s.extract 1 s.size));generalize YT (ls (s.extract 1 s.size))=r at*;rw[jP]at b1 b;have d:=aN s;cases g:ls s with
 | nil=>rw[g]at d;exact absurd d.symm p
 | cons x l=>
   have q:YW s=x.toNat:=by unfold YW;rw[g];rfl
   have u:=x.toNat_lt;rw[g]at b1 b d;simp only[ji,Yl]at b1 b;have o:Yk (16*((YW s/ 16:Nat):Int)+((YW s% 16:Nat):Int)).toNat 1=[x]:=by
    rw[q,show(16*((x.toNat/ 16:Nat):Int)+((x.toNat% 16:Nat):Int)).toNat=x.toNat by omega];have:=pZ [x] rfl;rw[show YZ [x]=x.toNat by simp[YZ]]at this;exact this
   refine⟨i,m,?_,?_,?_⟩
   ·show x :: l=(Yk (16*((YW s/ 16:Nat):Int)+((YW s% 16:Nat):Int)).toNat 1++eP r.1)++(x :: l).drop (r.2.1+1);rw[o,ji];show x :: l=x :: (eP r.1++l.drop r.2.1);rw[<-b1]
   ·show r.2.1+1=(Yk (16*((YW s/ 16:Nat):Int)+((YW s% 16:Nat):Int)).toNat 1++eP r.1).length;rw[List.length_append,fM,<-b2,Nat.add_comm]
   ·show r.2.1+1<=s.size;simp only[bM]at d;omega
