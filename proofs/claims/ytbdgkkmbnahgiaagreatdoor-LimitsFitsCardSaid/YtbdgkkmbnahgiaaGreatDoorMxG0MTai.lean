/- A part of what the laws stand on: MTai, HdP. -/
import Derived.Test.YtbdgkkmbnahgiaaGreatDoorMxG0MPubA
set_option maxRecDepth 10000
set_option maxHeartbeats 8000000
namespace Go.Proofs.YtbdgkkmbnahgiaaGreatDoor
open Go.RowKit Go.Proofs.Tryz
def dg(k:Int)(t:ByteArray)(a:Nat):Int×List Pr×Nat×Int:=
 if t.size<=a then(0,[],a,0)
 else if t.size=a+1 then((br t a 0 1:Nat),[],a+1,if br t a 0 1=0 then 5 else 0)
 else((br t a 0 1:Nat),(aZ k (t.extract (a+1) t.size)).1,a+1+(aZ k (t.extract (a+1) t.size)).2.1,
  if(aZ k (t.extract (a+1) t.size)).2.2≠0 then(aZ k (t.extract (a+1) t.size)).2.2 else if(aZ k (t.extract (a+1) t.size)).1.length=0 then 5 else 0)
def oG(k code:Int)(l:List Pr):List UInt8:=if code=0/\l.length=0 then []else da code.toNat 1++(if l.length=0 then []else(aM k l).1)
theorem AD(p:Pk):Fa p=oG p.kind p.code p.props:=rfl
theorem dZ{t:ByteArray}{a k:Nat}(h:a+k<=t.size):aH t a 0 k=(t.extract a (a+k),a+k,0):=by
 have h1:=mH t a 0 k (.inr (by simp[jQ];omega));rw[<-h1,sd h]
theorem kH{t:ByteArray}{a k:Nat}(h:¬a+k<=t.size):aH t a 0 k=(⟨#[]⟩,a,3):=by
 have hh:jQ t a k=false:=by simp[jQ];omega
 unfold aH;rw[if_pos rfl,ae (by rw[hh];decide)]
theorem sc{t:ByteArray}{a k:Nat}{x rest:List UInt8}(h:(ls t).drop a=x++rest)(hx:x.length=k)(ha:a<=t.size):br t a 0 k=es x:=by
 have hl:=congrArg List.length h;rw[bU,List.length_append,aN]at hl;unfold br;rw[dZ (by omega),db,h,<-hx,List.take_left'];rfl
theorem iV(t:ByteArray)(a:Nat)(e:Int):br t a e 1<256:=by
 unfold br;have h1:=ka (ls (aH t a e 1).1);have h2:(ls (aH t a e 1).1).length<=1:=by
  rw[aN];unfold aH;split
  ·split
   ·show(t.extract a (a+Int.toNat 1)).size<=1;rw[aj];omega
   ·exact ag _
  ·exact ag _
 have h3:256^ (ls (aH t a e 1).1).length<=256^ 1:=df (by omega) h2;omega
theorem lo{t:ByteArray}{a:Nat}(h:a+1<=t.size):(ls t).drop a=da (br t a 0 1) 1++(ls t).drop (a+1):=by
 unfold br;rw[show((1:Int))=((1:Nat):Int)from rfl,dZ h,pZ _ (by rw[aN,aj];omega),db,<-et,cg]
theorem lY{t:ByteArray}{a:Nat}(h:a+2<=t.size):(ls t).drop a=da (br t a 0 2) 2++(ls t).drop (a+2):=by
 unfold br;rw[show((2:Int))=((2:Nat):Int)from rfl,dZ h,lm _ (by rw[aN,aj];omega),db,<-et,cg]
theorem MI{k:Int}{l:List Pr}(h:(aM k l).2=0):0<(aM k l).1.length:=by
 rw[tE k l h,List.length_append];have:0<(eP (l.flatMap jI).length).length:=by
  unfold eP ig;split<;>simp
 omega
theorem JU{k code:Int}{l:List Pr}{t:ByteArray}{a:Nat}(h:(ls t).drop a=oG k code l)(ha:a<=t.size)(h0:0<=code)(h1:code<256)(hb:(aM k l).2=0)(hn:∀p∈l,p.n<4294967296):
  dg k t a=(code,l,t.size,0):=by
 have hl:=congrArg List.length h;rw[bU,aN]at hl;unfold oG at h hl
 by_cases hz:code=0/\l.length=0
 ·rw[if_pos hz]at h hl;have he:t.size<=a:=by simp at hl;omega
  unfold dg;rw[if_pos he,aF hz.2,hz.1,show a=t.size by omega]
 ·rw[ae hz]at h hl;rw[List.length_append,fM]at hl;have hc:br t a 0 1=code.toNat:=by
   have:=sc (k:=1) h (fM _ _) ha;rw[show((1:Nat):Int)=1 from rfl]at this;rw[this,Jd _ (by omega)]
  unfold dg;rw[ae (by omega),hc]
  by_cases hp:l.length=0
  ·rw[if_pos hp]at hl;have:l=[]:=aF hp;subst this;rw[if_pos (by simp at hl;omega),ae (by intro x;exact hz ⟨by omega,rfl⟩),show((code.toNat:Nat):Int)=code by omega,show a+1=t.size by simp at hl;omega]
  ·rw[ae hp]at h hl;have h2:=MI hb;rw[ae (by omega)];have hd:ls (t.extract (a+1) t.size)=(aM k l).1++[]:=by
    rw[ju,<-fM code.toNat 1,Iw (t:=t) (a:=a) h,cW]
   rw[Jb hb hn hd];simp only;rw[ae (by decide),ae hp,show((code.toNat:Nat):Int)=code by omega,show a+1+(aM k l).1.length=t.size by omega]
theorem rM{k:Int}{t:ByteArray}{a:Nat}(_ha:a<=t.size)(h:(dg k t a).2.2.2=0)(hend:t.size<=(dg k t a).2.2.1):
  (ls t).drop a=oG k (dg k t a).1 (dg k t a).2.1/\(aM k (dg k t a).2.1).2=0:=by
 unfold dg at h hend⊢
 by_cases h1:t.size<=a
 ·rw[if_pos h1]at h hend⊢;refine⟨?_,rfl⟩;rw[gF (by rw[aN];exact h1)];rfl
 ·rw[ae h1]at h hend⊢;have hnb:=lo (t:=t) (a:=a) (by omega)
  by_cases h2:t.size=a+1
  ·rw[if_pos h2]at h hend⊢;refine⟨?_,rfl⟩;simp only at h⊢;have hc:br t a 0 1≠0:=fun x=>by rw[if_pos x]at h;cases h
   rw[hnb,gF (by rw[aN];omega)];unfold oG;rw[ae (fun x=>hc (by have:=x.1;omega)),if_pos eC,dN]
  ·rw[ae h2]at h hend⊢;simp only at h hend⊢;have hx:(aZ k (t.extract (a+1) t.size)).2.2=0:=aU.1 fun x=>by rw[if_pos x]at h;exact x h
   rw[ae (fun x=>x hx)]at h;have hl:(aZ k (t.extract (a+1) t.size)).1.length≠0:=fun x=>by rw[if_pos x]at h;cases h
   obtain⟨b1,b2,b3⟩:=fd (kind:=k) (s:=t.extract (a+1) t.size) (l:=(aZ k (t.extract (a+1) t.size)).1) (n:=(aZ k (t.extract (a+1) t.size)).2.1) (by rw[<-hx]);rw[lk]at b3;refine⟨?_,b1⟩;unfold oG;rw[ae (fun x=>hl x.2),ae hl,hnb,b2,ju,bt (by rw[bU,aN];omega)];rfl
theorem nN{k:Int}{t:ByteArray}{a:Nat}(ht:t.size<=140737488351232):∀p∈(dg k t a).2.1,ea p:=by
 unfold dg;split
 ·simp
 ·split
  ·simp
  ·exact iT (by rw[aj];omega)
def aP(k i c:Int)(l:List Pr):Pk:={pk0 with kind:=k,id:=i,code:=c,props:=l}
def it(v k:Int)(t:ByteArray):Int×List Pr×Nat×Int:=if v=5 then dg k t 2 else(0,[],2,0)
def gq(v k:Int)(s:ByteArray):Pk:=aP k (br s 0 0 2:Nat) (it v k s).1 (it v k s).2.1
def fP(v k:Int)(s:ByteArray):Int:=if(it v k s).2.2.2≠0 then(it v k s).2.2.2 else if(it v k s).2.2.1<s.size then 5 else 0
def iW(v k:Int)(s:ByteArray):Pk×Int:=
 if pe v k=false then(pk0,2)
 else if s.size<2 then(pk0,3)
 else if fP v k s≠0 then(pk0,fP v k s)
 else if eS v (gq v k s)≠0 then(pk0,eS v (gq v k s))
 else(gq v k s,0)
theorem AI{v k:Int}(h:pe v k=true):v=4\/v=5:=(aR h).1
theorem MJ{v:Int}{p:Pk}(g:AckGood v p)(hn:∀q∈p.props,q.n<4294967296){s:ByteArray}(hs:ls s=da p.id.toNat 2++Fa p):iW v p.kind s=(p,0):=by
 have i1:=g.id1;have i2:=g.id2;have hl:=congrArg List.length hs;rw[aN,List.length_append,fM]at hl;have hid:br s 0 0 2=p.id.toNat:=by
  have:=sc (k:=2) (t:=s) (a:=0) (by rw[cS];exact hs) (fM _ _) (by omega);rw[show((2:Nat):Int)=2 from rfl]at this;rw[this,H7 _ (by omega)]
 have hd:(ls s).drop 2=oG p.kind p.code p.props:=by
  have:=Iw (t:=s) (a:=0) (by rw[cS];exact hs);rwa[fM,bV]at this
 have hr:it v p.kind s=(p.code,p.props,s.size,0):=by
  unfold it
  by_cases h5:v=5
  ·rw[if_pos h5,JU hd (by omega) g.c1 g.c2 g.bytes hn]
  ·rw[ae h5];obtain⟨e1,e2⟩:=g.old ((AI g.k).resolve_right h5);have hz:Fa p=[]:=by unfold Fa;rw[if_pos ⟨e1,by rw[e2];rfl⟩]
   rw[hz]at hl;rw[e1,e2,show s.size=2 by simpa using hl]
 have hp:gq v p.kind s=p:=by
  unfold gq;rw[hr,hid,show((p.id.toNat:Nat):Int)=p.id by omega];exact g.same.symm
 have he:fP v p.kind s=0:=by
  unfold fP;rw[hr];simp
 unfold iW;rw[g.k,ae (by decide),ae (by omega),he,ae (by decide),hp,g.ok,ae (by decide)]
theorem AF(v k:Int)(s:ByteArray):(iW v k s=(pk0,(iW v k s).2)/\(iW v k s).2≠0)\/
  ((iW v k s).2=0/\AckGood v (iW v k s).1/\(iW v k s).1.kind=k/\da (iW v k s).1.id.toNat 2++Fa (iW v k s).1=ls s):=by
 unfold iW
 by_cases h1:pe v k=false
 ·rw[if_pos h1];exact .inl ⟨rfl,by decide⟩
 rw[ae h1]
 by_cases h2:s.size<2
 ·rw[if_pos h2];exact .inl ⟨rfl,by decide⟩
 rw[ae h2]
 by_cases h3:fP v k s≠0
 ·rw[if_pos h3];exact .inl ⟨rfl,h3⟩
 rw[ae h3]
 by_cases h4:eS v (gq v k s)≠0
 ·rw[if_pos h4];exact .inl ⟨rfl,h4⟩
 rw[ae h4];refine .inr ⟨rfl,AJ (aU.1 h4),rfl,?_⟩;show da ((br s 0 0 2:Nat):Int).toNat 2++Fa (gq v k s)=ls s;have hb:=lY (t:=s) (a:=0) (by omega);rw[cS,bV]at hb;rw[dN,hb]
 congr 1
 have h3:=aU.1 h3;unfold fP at h3;have he:(it v k s).2.2.2=0:=aU.1 fun x=>by rw[if_pos x]at h3;exact x h3
 rw[ae (fun x=>x he)]at h3;have hend:¬(it v k s).2.2.1<s.size:=fun x=>by rw[if_pos x]at h3;cases h3
 rw[AD];show oG k (it v k s).1 (it v k s).2.1=_;unfold it at he hend⊢
 by_cases h5:v=5
 ·rw[if_pos h5]at he hend⊢;exact(rM (by omega) he (by omega)).1.symm
 ·rw[ae h5]at he hend⊢;rw[gF (by rw[aN];simp at hend;omega)];rfl
theorem iw{k i c:Int}{l:List Pr}(h:∀p∈l,ea p)(hl:l.length<=140737488351232):PkOk (aP k i c l):=by
 refine⟨?_,h,?_,?_,?_⟩
 ·intro q hq;cases hq
 ·intro q hq;cases hq
 ·exact⟨ag _,ag _,ag _,ag _,ag _,ag _,ag _⟩
 ·exact⟨ag _,ag _,ag _,hl⟩
theorem nM(k:Int)(t:ByteArray)(a:Nat):(dg k t a).2.1.length<=1000:=by
 unfold dg;split
 ·exact ag _
 ·split
  ·exact ag _
  ·show(aZ k (t.extract (a+1) t.size)).1.length<=1000
   by_cases h:(aZ k (t.extract (a+1) t.size)).2.2=0
   ·exact kj h
   ·rw[fZ h];exact ag _
section
attribute [local go_sem ↓] Go.wp_at_zero Go.wp_at_succ
theorem td(k i c c':Int)(l:List Pr)(h:Hs):(pkC (aP k i c l) h).setIfInBounds 21 (.int .i64 c')=pkC (aP k i c' l) h:=rfl
theorem uT(k i c:Int)(l l':List Pr)(A:Option Addr)(n:Nat)(h:Hs):(pkC (aP k i c l) h).setIfInBounds 24 (.slice A l'.length n)=pkC (aP k i c l') {h with props:=⟨A,n⟩}:=rfl
theorem zE{w:World}{gp gc a:Nat}{p:Pk}{h:Hs}{t:ByteArray}{e:Int}(hp:Bk w gp PkT (pkC p h))(hc:Cur w gc t a e):gp≠gc:=by
 rintro rfl;have h1:=hp;have h2:=hc.1;unfold Bk at h1 h2;rw[h1]at h2;simp only[aX,fc]at h2;exact absurd h2.2.1 (by decide)
abbrev SR(gp:Nat)(v:Value)(W x:World):Prop:=x.cell? ⟨gp,0,none⟩=some v/\Below W.heap.size W x
theorem SR.to{gp:Nat}{v:Value}{W x:World}(h:SR gp v W x):Below W.heap.size W x:=h.2
theorem SR.below{gp:Nat}{v:Value}{W x y:World}(h:SR gp v W x)(hb:Below x.heap.size x y):SR gp v W y:=
 ⟨(hb.cell (p:=⟨gp,0,none⟩) (eY x _ h.1)).trans h.1,h.2.trans (hb.mono h.2.size)⟩
theorem fY{t:ByteArray}{a:Nat}{e n:Int}(h:e≠0):aH t a e n=(⟨#[]⟩,a,e):=by
 unfold aH;rw[ae h]
def pI(gp gc:Nat)(k i:Int)(t:ByteArray)(r:Int×List Pr×Nat×Int)(w:World)(e:Ending)(w':World):Prop:=
 e= .returned (.tuple #[])/\∃A c,r.2.1.length<=c/\Rd w' w'.heap.size 4 A r.2.1.length (prs r.2.1)/\Bk w' gp PkT (pkC (aP k i r.1 r.2.1) {hs0 with props:=⟨A,c⟩})/\Cur w' gc t r.2.2.1 r.2.2.2/\Mods (two gp gc) w w'
theorem mD{gp gc:Nat}{k i:Int}{t:ByteArray}{r:Int×List Pr×Nat×Int}{w w':World}{c:Int}{a:Nat}{e:Int}(hr:r=(c,[],a,e))(hp:Bk w' gp PkT (pkC (aP k i c []) hs0))(hc:Cur w' gc t a e)(hm:Mods (two gp gc) w w'):pI gp gc k i t r w (.returned (.tuple #[])) w':=by
 subst hr;exact⟨rfl,none,0,ac _,Rd.nil _ _ _ _,hp,hc,hm⟩
theorem Rd.other{w w':World}{B g:Nat}{A:Option Addr}{l:List Pr}{t:TypeId}{cs:Array Value}(h:Rd w B 4 A l.length (prs l))(hbk:Bk w g t cs)(hcs:∀(i:Nat) (n:Int),cs[i]? ≠some (Value.int IntKind.u32 n))(hm:w.grownBy w' (some g))(hB:B<=w.heap.size):Rd w' B 4 A l.length (prs l):=by
 refine h.grown hm hB fun b o hA hx hbg=>?_;subst hbg;have hl:0<l.length:=by
  cases l with
  | nil=>exact absurd rfl hx
  | cons=>simp
 obtain⟨b',o',he,_,_,c1,_⟩:=h.atP hl;rw[hA]at he;cases he;rw[hbk.cell]at c1;exact hcs _ _ c1
theorem gw(t:ByteArray)(a:Nat)(e:Int):∀(i:Nat) (n:Int),(Am t a e)[i]? ≠some (Value.int IntKind.u32 n):=by
 intro i n;rcases i with _| _| _| i<;>simp[Am]
theorem dY(p:Pk)(h:Hs):∀(i:Nat) (n:Int),(pkC p h)[i]? ≠some (Value.int IntKind.u32 n):=by
 intro i n;rcases i with _| _| _| _| _| _| _| _| _| _| _| _| _| _| _| _| _| _| _| _| _| _| _| _| _| i<;>simp[pkC]
structure RJ (gp gc:Nat) (k i q:Int) (l:List Pr) (A:Option Addr) (t:ByteArray) (a:Nat) (e:Int) (w x:World):Prop where
 pk:Bk x gp PkT (pkC (aP k i q []) hs0)
 cur:Cur x gc t a e
 rd:Rd x x.heap.size 4 A l.length (prs l)
 mods:Mods (two gp gc) w x
 ne:gp≠gc
theorem RJ.turn{gp gc:Nat}{k i q:Int}{l:List Pr}{A:Option Addr}{t:ByteArray}{a a':Nat}{e e':Int}{w x y:World}(h:RJ gp gc k i q l A t a e w x)(hc:Cur y gc t a' e')(hm:x.grownBy y (some gc)):RJ gp gc k i q l A t a' e' w y:=
 ⟨h.pk.mods (S:=fun z=>z=gc) (Mods.of_grown hm rfl) h.ne,hc,(h.rd.other h.cur.1 (gw _ _ _) hm (ac _)).wider hm.size,h.mods.trans (Mods.of_grown hm (.inr rfl)),h.ne⟩
theorem RJ.fin{gp gc:Nat}{k i q:Int}{l:List Pr}{A:Option Addr}{t:ByteArray}{a:Nat}{e:Int}{w x:World}{c:Nat}{r:Int×List Pr×Nat×Int}(h:RJ gp gc k i q l A t a e w x)(hr:r=(q,l,a,e))(hc:l.length<=c):
  pI gp gc k i t r w (.returned (.tuple #[])) (x.setCell ⟨gp,24,none⟩ (.slice A l.length c)):=by
 subst hr;exact⟨rfl,A,c,hc,(h.rd.other h.pk (dY _ _) (cP x gp 24 _) (ac _)).wider (cP x gp 24 _).size,h.pk.upd 24 _ (uT k i q [] l A c hs0),⟨h.cur.1.other (Ne.symm h.ne) _,h.cur.2⟩,h.mods.set gp 24 (.inl (.inl rfl)) _⟩
theorem vQ(gp gc a:Nat)(t:ByteArray)(k i:Int)(w:World)(hp:Bk w gp PkT (pkC (aP k i 0 []) hs0))(hc:Cur w gc t a 0)(ht:t.size<=140737488351232):
  Calls prog 271 #[.pointer (some ⟨gp,0,none⟩),.pointer (some ⟨gc,0,none⟩)] w (pI gp gc k i t (dg k t a) w):=by
 have hne:=zE hp hc;have hle:=hc.2.1;have HP:=aa hp;have HC:=aa hc;have HT:=aa ht;have HN:=aa hne
 clear hp hc ht hne
 by_cases h1:t.size<=a
 ·have HX:Hid (dg k t a=(0,[],a,0)):=aa (by unfold dg;rw[if_pos h1]);have z0:(((t.size- a:Nat):Int)==0)=true:=aK.2 (by omega);clear h1 hle;go_enter func271,ntmps271
  go_wp2_with fail
  refine(eI gc a t 0 _ HC.o).mono ?_;rintro e w1 ⟨rfl,hb⟩;have HB:=aa hb;clear hb
  go_wp2
  go_end0
  exact mD HX.o (HP.o.below HB.o HP.o.lt) (HC.o.below HB.o) (Mods.of_below HB.o)
 ·have HE:Hid (aH t a 0 1=(t.extract a (a+1),a+1,0)):=aa (dZ (k:=1) (by omega));have z0:(((t.size- a:Nat):Int)==0)=false:=ar.2 (by omega);have HNB:=aa (iV t a 0)
  by_cases h2:t.size=a+1
  ·have HX:Hid (dg k t a=(((br t a 0 1:Nat):Int),[],a+1,if br t a 0 1=0 then 5 else 0)):=aa (by unfold dg;rw[ae h1,if_pos h2]);have z1:(((t.size- (a+1):Nat):Int)==0)=true:=aK.2 (by omega);clear h1 h2 hle;go_enter func271,ntmps271
   go_wp2_with fail
   refine(eI gc a t 0 _ HC.o).mono ?_;rintro e w1 ⟨rfl,hb⟩;have HC1:=aa (HC.o.below hb);have HP1:=aa (HP.o.below hb HP.o.lt);have M1:=aa (Mods.of_below (S:=two gp gc) hb);clear hb
   go_wp2_with fail
   refine(dR gc a t 0 1 _ HC1.o (by decide)).mono ?_;rintro e w2 ⟨rfl,hc,hm⟩;rw[HE.o]at hc;have HP2:=aa (HP1.o.mods (S:=fun x=>x=gc) (Mods.of_grown hm rfl) HN.o);have HC2:=aa hc;have M2:=aa (M1.o.trans (Mods.of_grown hm (.inr rfl)))
   clear hc hm HE;generalize br t a 0 1=q at*;have hw:IntKind.i64.wrap (q:Int)=(q:Int):=by rw[aQ];have:=HNB.o;omega
   have k2:w2.cell? ⟨gp,21,none⟩=some (.int .i64 0):=HP2.o.cell 21;have f2:=HP2.o.free 21;have HP3:=aa (HP2.o.upd 21 (.int .i64 q) (td k i 0 q [] hs0));have HC3:Hid (Cur (w2.setCell ⟨gp,21,none⟩ (.int .i64 q)) gc t (a+1) 0):=aa ⟨HC2.o.1.other (Ne.symm HN.o) _,HC2.o.2⟩;have M3:=aa (M2.o.set gp 21 (.inl (.inl rfl)) (.int .i64 q))
   go_wp2_with fail
   refine(eI gc (a+1) t 0 _ HC3.o).mono ?_;rintro e w3 ⟨rfl,hb⟩;have HC4:=aa (HC3.o.below hb);have HP4:=aa (HP3.o.below hb HP3.o.lt);have M4:=aa (M3.o.trans (Mods.of_below hb));clear hb k2 f2
   have k4:w3.cell? ⟨gp,21,none⟩=some (.int .i64 q):=HP4.o.cell 21
   by_cases hq:q=0
   ·have z2:((q:Int)==0)=true:=aK.2 (by omega);have HY:Hid (dg k t a=((q:Int),[],a+1,5)):=aa (by rw[HX.o,if_pos hq]);clear hq
    go_wp2_with fail
    refine(cB gc (a+1) t 0 5 _ HC4.o).mono ?_;rintro e w4 ⟨rfl,hc,hm⟩;rw[if_pos rfl]at hc;have HP5:=aa (HP4.o.mods (S:=fun x=>x=gc) (Mods.of_grown hm rfl) HN.o);have HC5:=aa hc;have M5:=aa (M4.o.trans (Mods.of_grown hm (.inr rfl)))
    clear hc hm k4;go_wp2
    go_end0
    exact mD HY.o HP5.o HC5.o M5.o
   ·have z2:((q:Int)==0)=false:=ar.2 (by omega);have HY:Hid (dg k t a=((q:Int),[],a+1,0)):=aa (by rw[HX.o,ae hq]);clear hq;go_wp2
    go_end0
    exact mD HY.o HP4.o HC4.o M4.o
  ·have HX:Hid (dg k t a=(((br t a 0 1:Nat):Int),(aZ k (t.extract (a+1) t.size)).1,a+1+(aZ k (t.extract (a+1) t.size)).2.1,
    if(aZ k (t.extract (a+1) t.size)).2.2≠0 then(aZ k (t.extract (a+1) t.size)).2.2 else if(aZ k (t.extract (a+1) t.size)).1.length=0 then 5 else 0)):=aa (by unfold dg;rw[ae h1,ae h2])
   have z1:(((t.size- (a+1):Nat):Int)==0)=false:=ar.2 (by omega);have HZ:Hid ((t.extract (a+1) t.size).size<=140737488351232):=aa (by rw[lk];have:=HT.o;omega);have HZ1:Hid (a+1+(t.extract (a+1) t.size).size=t.size):=aa (by rw[lk];omega);clear h1 h2 hle;go_enter func271,ntmps271
   go_wp2_with fail
   refine(eI gc a t 0 _ HC.o).mono ?_;rintro e w1 ⟨rfl,hb⟩;have HC1:=aa (HC.o.below hb);have HP1:=aa (HP.o.below hb HP.o.lt);have M1:=aa (Mods.of_below (S:=two gp gc) hb);clear hb
   go_wp2_with fail
   refine(dR gc a t 0 1 _ HC1.o (by decide)).mono ?_;rintro e w2 ⟨rfl,hc,hm⟩;rw[HE.o]at hc;have HP2:=aa (HP1.o.mods (S:=fun x=>x=gc) (Mods.of_grown hm rfl) HN.o);have HC2:=aa hc;have M2:=aa (M1.o.trans (Mods.of_grown hm (.inr rfl)))
   clear hc hm HE;generalize br t a 0 1=q at*;have hw:IntKind.i64.wrap (q:Int)=(q:Int):=by rw[aQ];have:=HNB.o;omega
   have k2:w2.cell? ⟨gp,21,none⟩=some (.int .i64 0):=HP2.o.cell 21;have f2:=HP2.o.free 21;have HP3:=aa (HP2.o.upd 21 (.int .i64 q) (td k i 0 q [] hs0));have HC3:Hid (Cur (w2.setCell ⟨gp,21,none⟩ (.int .i64 q)) gc t (a+1) 0):=aa ⟨HC2.o.1.other (Ne.symm HN.o) _,HC2.o.2⟩;have M3:=aa (M2.o.set gp 21 (.inl (.inl rfl)) (.int .i64 q))
   go_wp2_with fail
   refine(eI gc (a+1) t 0 _ HC3.o).mono ?_;rintro e w3 ⟨rfl,hb⟩;have HC4:=aa (HC3.o.below hb);have HP4:=aa (HP3.o.below hb HP3.o.lt);have M4:=aa (M3.o.trans (Mods.of_below hb));clear hb k2 f2
   have k4:w3.cell? ⟨gp,0,none⟩=some (.int .i64 k):=HP4.o.cell 0
   go_wp2_with fail
   go_region_held3 (fun x=>x.cell? ⟨gp,0,none⟩=some (.int .i64 k)/\Below w3.heap.size w3 x)
    (first| exact⟨k4,aV (aq _ _) _⟩ | exact SR.below (by assumption) hbr| exact SR.below (by assumption) hbd| go_keep)
    (first| (go_at_call 64;refine(jG gc (a+1) t 0 _ (HC4.o.below (SR.to (by assumption)))).mono ?_;rintro e x1 ⟨rfl,hbr⟩)
          | (go_at_call 63;refine(kl k _ _ HZ.o).mono ?_;rintro e x2 ⟨A,c,rfl,hcap,hrd,hbd⟩))
   have hSR:Below w3.heap.size w3 x2:=(SR.to (gp:=gp) (v:=.int .i64 k) (by assumption));have HC5:=aa (HC4.o.below hSR);have HP5:=aa (HP4.o.below hSR HP4.o.lt);have M5:=aa (M4.o.trans (Mods.of_below hSR))
   have HCAP:=aa hcap;have HRD:=aa hrd
   have HLB:Hid ((aZ k (t.extract (a+1) t.size)).2.2=0->(aZ k (t.extract (a+1) t.size)).2.1<=(t.extract (a+1) t.size).size):=aa fun h0=>
    (fd (kind:=k) (s:=t.extract (a+1) t.size) (l:=(aZ k (t.extract (a+1) t.size)).1) (n:=(aZ k (t.extract (a+1) t.size)).2.1) (by rw[<-h0])).2.2
   have HBAD:Hid ((aZ k (t.extract (a+1) t.size)).2.2≠0->(aZ k (t.extract (a+1) t.size)).1=[]/\(aZ k (t.extract (a+1) t.size)).2.1=0):=aa fun h0=>by rw[fZ h0];exact⟨rfl,rfl⟩
   clear hSR hcap hrd;generalize aZ k (t.extract (a+1) t.size)=R at*;obtain⟨l,n,x⟩:=R;simp only at HX HLB HBAD HCAP HRD;have J5:Hid (RJ gp gc k i q l A t (a+1) 0 w x2):=aa ⟨HP5.o,HC5.o,HRD.o,M5.o,HN.o⟩;clear HP5 HC5 HRD M5 HP4 HC4 M4 HP3 HC3 M3 HP2 HC2 M2 HP1 HC1 M1 HP HC;simp only
   by_cases hx:x=0
   ·have HT5:Hid (aH t (a+1) 0 n=(t.extract (a+1) (a+1+n),a+1+n,0)):=aa (dZ (by have:=HLB.o hx;have:=HZ1.o;omega));subst hx;have f5:x2.cell? ⟨gp,24,none⟩=some (.slice none 0 0):=J5.o.pk.cell 24;clear k4
    go_wp2_with fail
    refine(cB gc (a+1) t 0 0 _ J5.o.cur).mono ?_;rintro e w4 ⟨rfl,hc,hm⟩;rw[if_pos rfl]at hc;have J6:=aa (J5.o.turn hc hm);clear hc hm f5
    go_wp2_with fail
    refine(eo gc (a+1) t 0 n _ J6.o.cur).mono ?_;rintro e w5 ⟨rfl,hc,hm⟩;rw[HT5.o]at hc⊢;have J7:=aa (J6.o.turn hc hm);clear hc hm
    by_cases hl:l.length=0
    ·have z2:((l.length:Int)==0)=true:=aK.2 (by omega);have HY:Hid (dg k t a=((q:Int),l,a+1+n,5)):=aa (by rw[HX.o,ae (by decide),if_pos hl]);clear hl
     go_wp2_with fail
     refine(cB gc (a+1+n) t 0 5 _ J7.o.cur).mono ?_;rintro e w6 ⟨rfl,hc,hm⟩;rw[if_pos rfl]at hc;have J8:=aa (J7.o.turn hc hm);clear hc hm
     have f8:w6.cell? ⟨gp,24,none⟩=some (.slice none 0 0):=J8.o.pk.cell 24;have g8:=J8.o.pk.free 24;go_wp2
     go_end0
     exact J8.o.fin HY.o HCAP.o
    ·have z2:((l.length:Int)==0)=false:=ar.2 (by omega);have HY:Hid (dg k t a=((q:Int),l,a+1+n,0)):=aa (by rw[HX.o,ae (by decide),ae hl]);clear hl;have f8:w5.cell? ⟨gp,24,none⟩=some (.slice none 0 0):=J7.o.pk.cell 24;have g8:=J7.o.pk.free 24;go_wp2
     go_end0
     exact J7.o.fin HY.o HCAP.o
   ·have hn0:=HBAD.o hx;obtain⟨rfl,rfl⟩:=hn0;have HT5:=aa (fY (t:=t) (a:=a+1) (n:=((0:Nat):Int)) hx);have HY:Hid (dg k t a=((q:Int),[],a+1,x)):=aa (by rw[HX.o,if_pos hx]);have z2:((([]:List Pr).length:Int)==0)=true:=rfl;have HXX:=aa hx;clear hx k4
    go_wp2_with fail
    refine(cB gc (a+1) t 0 x _ J5.o.cur).mono ?_;rintro e w4 ⟨rfl,hc,hm⟩;rw[if_pos rfl]at hc;have J6:=aa (J5.o.turn hc hm);clear hc hm
    go_wp2_with fail
    refine(eo gc (a+1) t x 0 _ J6.o.cur).mono ?_;rintro e w5 ⟨rfl,hc,hm⟩;have HT5':Hid (aH t (a+1) x 0=(⟨#[]⟩,a+1,x)):=HT5;rw[HT5'.o]at hc⊢;have J7:=aa (J6.o.turn hc hm);clear hc hm
    go_wp2_with fail
    refine(cB gc (a+1) t x 5 _ J7.o.cur).mono ?_;rintro e w6 ⟨rfl,hc,hm⟩;have HF:Hid ((if x=0 then 5 else x)=x):=aa (by by_cases h:x=0; ·subst h;exact absurd rfl HXX.o
                                                                                                                        ·rw[ae h])
    rw[HF.o]at hc;have J8:=aa (J7.o.turn hc hm);clear hc hm
    have f8:w6.cell? ⟨gp,24,none⟩=some (.slice none 0 0):=J8.o.pk.cell 24;have g8:=J8.o.pk.free 24;go_wp2
    go_end0
    exact J8.o.fin HY.o HCAP.o
end
section
attribute [local go_sem ↓] bD bF bH bI bu
attribute [local go_sem] bc aD bh bg bK bJ bd aY be aO ax cI dC dB dt dj di dA dr dp dn bW co bO bZ bX cz cy cw cu ct cC cn bS bP bR
theorem PkIn.R1{w:World}{B:Nat}{A:Option Addr}{n:Nat}{l:List Pr}(h:Rd w B 4 A l.length (prs l))(hn:l.length<=n)(k i c:Int):PkIn w B (aP k i c l) {hs0 with props:=⟨A,n⟩}:=
 ⟨Rd.nil _ _ _ _,Rd.nil _ _ _ _,Rd.nil _ _ _ _,h,ag _,ag _,ag _,hn⟩
structure RI (w:World) (g gp gc:Nat) (k i c:Int) (l:List Pr) (A:Option Addr) (n:Nat) (t:ByteArray) (a:Nat) (e:Int) (x:World):Prop where
 kept:Below w.heap.size w x
 res:Bk x g PkT (pkC pk0 hs0)
 pk:Bk x gp PkT (pkC (aP k i c l) {hs0 with props:=⟨A,n⟩})
 cur:Cur x gc t a e
 rd:Rd x x.heap.size 4 A l.length (prs l)
 cap:l.length<=n
 ne:g≠gp/\g≠gc/\gp≠gc
 base:w.heap.size<=g/\w.heap.size<=gp/\w.heap.size<=gc
section
variable {w x y:World} {g gp gc:Nat} {k i c:Int} {l:List Pr} {A:Option Addr} {n:Nat} {t:ByteArray} {a a':Nat} {e e':Int}
theorem RI.below(h:RI w g gp gc k i c l A n t a e x)(hb:Below x.heap.size x y):RI w g gp gc k i c l A n t a e y:=
 ⟨h.kept.trans (hb.mono h.kept.size),h.res.below hb h.res.lt,h.pk.below hb h.pk.lt,h.cur.below hb,(h.rd.below hb).wider hb.size,h.cap,h.ne,h.base⟩
theorem RI.turn(h:RI w g gp gc k i c l A n t a e x)(hc:Cur y gc t a' e')(hm:x.grownBy y (some gc)):RI w g gp gc k i c l A n t a' e' y:=
 ⟨dw h.kept hm h.kept.size h.base.2.2,h.res.mods (S:=fun z=>z=gc) (Mods.of_grown hm rfl) h.ne.2.1,h.pk.mods (S:=fun z=>z=gc) (Mods.of_grown hm rfl) h.ne.2.2,hc,
  (h.rd.other h.cur.1 (gw _ _ _) hm (ac _)).wider hm.size,h.cap,h.ne,h.base⟩
theorem RI.rest{r:Int×List Pr×Nat×Int}{ee:Ending}(h:RI w g gp gc k i 0 [] none 0 t a e x)(hr:pI gp gc k i t r x ee y):ee= .returned (.tuple #[])/\∃A n,RI w g gp gc k i r.1 r.2.1 A n t r.2.2.1 r.2.2.2 y:=by
 obtain⟨h1,A,n,h2,h3,h4,h5,h6⟩:=hr;refine⟨h1,A,n,⟨Mods.below h.kept h6 h.kept.size (fun z hz=>hz.elim (fun e=>by rw[e];exact h.base.2.1) (fun e=>by rw[e];exact h.base.2.2)),h.res.mods h6 (fun hz=>hz.elim h.ne.1 h.ne.2.1),h4,h5,h3,h2,h.ne,h.base⟩⟩
theorem RI.into(h:RI w g gp gc k i c l A n t a e x):PkIn x x.heap.size (aP k i c l) {hs0 with props:=⟨A,n⟩}:=PkIn.R1 h.rd h.cap k i c
theorem RI.none(h:RI w g gp gc k i c l A n t a e x):Below w.heap.size w (dE x g pk0 hs0)/\Bk (dE x g pk0 hs0) g PkT (pkC pk0 hs0):=⟨bT h.kept h.kept.size h.base.1 _ _,cO h.res _ _⟩
theorem RI.some(h:RI w g gp gc k i c l A n t a e x):Below w.heap.size w (dE x g (aP k i c l) {hs0 with props:=⟨A,n⟩})/\Bk (dE x g (aP k i c l) {hs0 with props:=⟨A,n⟩}) g PkT (pkC (aP k i c l) {hs0 with props:=⟨A,n⟩})/\
  PkIn (dE x g (aP k i c l) {hs0 with props:=⟨A,n⟩}) (dE x g (aP k i c l) {hs0 with props:=⟨A,n⟩}).heap.size (aP k i c l) {hs0 with props:=⟨A,n⟩}:=
 ⟨bT h.kept h.kept.size h.base.1 _ _,cO h.res _ _,PkIn.R1 ((h.rd.other h.res (dY _ _) (cJ _ _ _ _) (ac _)).wider (cJ _ _ _ _).size) h.cap k i c⟩
end
def mu(r:Pk×Int)(w:World)(e:Ending)(w':World):Prop:=∃h,e= .returned (.tuple #[pkV r.1 h,.int .i64 r.2])/\PkIn w' w'.heap.size r.1 h/\Below w.heap.size w w'
theorem cL{r:Pk×Int}{x:Int}{w w':World}(h:r=(pk0,x))(hb:Below w.heap.size w w'):mu r w (.returned (.tuple #[pkV pk0 hs0,.int .i64 x])) w':=by
 subst h;exact⟨hs0,rfl,⟨Rd.nil _ _ _ _,Rd.nil _ _ _ _,Rd.nil _ _ _ _,Rd.nil _ _ _ _,ag _,ag _,ag _,ag _⟩,hb⟩
theorem fo{r:Pk×Int}{p:Pk}{h:Hs}{w w':World}(hr:r=(p,0))(hi:PkIn w' w'.heap.size p h)(hb:Below w.heap.size w w'):mu r w (.returned (.tuple #[pkV p h,.int .i64 0])) w':=by
 subst hr;exact⟨h,rfl,hi,hb⟩
theorem mb{e n:Int}:(if e=0 then n else e)=if e≠0 then e else n:=by
 by_cases h:e=0
 ·rw[if_pos h,ae (fun x=>x h)]
 ·rw[ae h,if_pos h]
theorem gU(t:ByteArray)(a:Nat)(e:Int)(ha:a<=t.size):br t a e 2<65536:=by
 unfold br;have h1:=ka (ls (aH t a e 2).1);have h2:(ls (aH t a e 2).1).length<=2:=by
  rw[aN];exact kI ha e 2 2 (by decide)
 have h3:256^ (ls (aH t a e 2).1).length<=256^ 2:=df (by omega) h2;omega
theorem AH{v k:Int}{s:ByteArray}(hk:pe v k=true)(h2:¬s.size<2):
  ((if fP v k s=0 then eS v (gq v k s)else fP v k s)=0/\iW v k s=(gq v k s,0))\/((if fP v k s=0 then eS v (gq v k s)else fP v k s)≠0/\iW v k s=(pk0,(if fP v k s=0 then eS v (gq v k s)else fP v k s))):=by
 have e1:iW v k s=if fP v k s≠0 then(pk0,fP v k s)else if eS v (gq v k s)≠0 then(pk0,eS v (gq v k s))else(gq v k s,0):=by
  unfold iW;rw[ae (fun x=>by rw[hk]at x;cases x),ae h2]
 rw[e1]
 by_cases h3:fP v k s=0
 ·rw[if_pos h3,ae (fun x=>x h3)]
  by_cases h4:eS v (gq v k s)=0
  ·rw[ae (fun x=>x h4)];exact .inl ⟨h4,rfl⟩
  ·rw[if_pos h4];exact .inr ⟨h4,rfl⟩
 ·rw[ae h3,if_pos h3];exact .inr ⟨h3,rfl⟩
theorem vS(k i:Int):({pk0 with kind:=k,id:=i}:Pk)=aP k i 0 []:=rfl
theorem vR(v k:Int)(s:ByteArray)(w:World)(hs:s.size<=140737488351232):
  Calls prog 196 #[.int .i64 v,.int .i64 k,.string s] w (mu (iW v k s) w):=by
 have HS:=aa hs;have HB0:=aa ((aq w.heap.size w).alloc (ac _) (.cells (pkC pk0 hs0) PkT));have H60:=aa (Bk.fresh w PkT (pkC pk0 hs0));go_enter func196,ntmps196
 go_wp2_with fail
 refine(nz v k _).mono ?_;rintro e w1 ⟨rfl,rfl⟩;cases hk:pe v k
 ·have HX:Hid (iW v k s=(pk0,2)):=aa (by unfold iW;rw[if_pos hk]);clear hk;go_wp2;refine av (aI rfl _ rfl H60.o) rfl ?_;exact cL HX.o HB0.o
 have HK:=aa hk;clear hk
 go_wp2_with fail
 refine(jL s _ (by have:=HS.o;omega)).mono ?_;rintro e w1 ⟨rfl,hc,hb⟩;have hgc:(w.alloc (.cells (pkC pk0 hs0) PkT)).heap.size=w.heap.size+1:=by simp
 have HB1:=aa (HB0.o.trans (hb.mono HB0.o.size));have H61:=aa (H60.o.below hb H60.o.lt)
 rw[hgc]at hc⊢;have HC1:=aa hc;clear hc hb hgc
 go_wp2_with fail
 refine(dR (w.heap.size+1) 0 s 0 2 _ HC1.o (by decide)).mono ?_;rintro e w2 ⟨rfl,hc,hm⟩;have HB2:=aa (dw HB1.o hm HB1.o.size (by omega));have H62:=aa (H61.o.mods (S:=fun z=>z=w.heap.size+1) (Mods.of_grown hm rfl) (by omega));have HC2:=aa hc
 have HZ:=aa HC2.o.lt;have hid:=gU s 0 0 (by omega);have HNUM:Hid (gq v k s=aP k (br s 0 0 2:Nat) (it v k s).1 (it v k s).2.1):=aa rfl;have HN0:Hid (s.size<2->br s 0 0 2=0):=aa fun h=>by
  unfold br;rw[show((2:Int))=((2:Nat):Int)from rfl,kH (by omega)];rfl
 clear hc hm;generalize br s 0 0 2=m at*;obtain⟨id,hm1⟩:∃id:Int,id=(m:Int):=⟨_,rfl⟩;have hw:IntKind.i64.wrap (m:Int)=id:=by rw[hm1,aQ];omega
 rw[<-hm1]at HNUM;have HM:=aa hm1;clear hid hm1;have I3:Hid (∀e a,Cur w2 (w.heap.size+1) s a e->RI w w.heap.size w2.heap.size (w.heap.size+1) k id 0 [] none 0 s a e (w2.alloc (.cells (pkC (aP k id 0 []) hs0) PkT))):=aa fun e a hc=>
  ⟨HB2.o.alloc HB2.o.size _,H62.o.alloc _,Bk.fresh _ _ _,⟨hc.1.alloc _,hc.2⟩,Rd.nil _ _ _ _,ac _,⟨by have:=HZ.o;omega,by omega,by have:=HZ.o;omega⟩,ac _,by have:=HZ.o;omega,by omega⟩
 have h45:=AI HK.o
 by_cases h2:s.size<2
 ·have HT:Hid (aH s 0 0 2=(⟨#[]⟩,0,3)):=aa (kH (k:=2) (by omega));obtain⟨er,her⟩:∃e:Int,e=3:=⟨3,rfl⟩;have hc3:=HC2.o;rw[HT.o]at hc3
  replace hc3:Cur w2 (w.heap.size+1) s 0 er:=her▸hc3
  have hi0:id=0:=by rw[HM.o,HN0.o h2];rfl
  have HW:Hid (((if er=0 then eS v (aP k id 0 [])else er)=0/\iW v k s=(aP k id 0 [],0))\/((if er=0 then eS v (aP k id 0 [])else er)≠0/\iW v k s=(pk0,(if er=0 then eS v (aP k id 0 [])else er)))):=aa (by
   rw[ae (by omega)];refine .inr ⟨by omega,?_⟩;subst her;unfold iW;rw[ae (by rw[HK.o];decide),if_pos h2])
  have HOK:Hid (PkOk (aP k id 0 [])):=aa (iw (by simp) (by simp));have I4:=aa (I3.o er 0 hc3);have e3:(er==0)=false:=ar.2 (by omega);clear hc3 HC2 hi0 I3 h2;obtain⟨E1,HE1'⟩:∃E:Int,E=er:=⟨er,rfl⟩;have HE1:Hid (E1=if er≠0 then er else if 0<s.size then 5 else 0):=aa (by rw[HE1',if_pos (by omega)]);rw[<-HE1']at HW;clear HE1' her;rcases h45 with h4| h5
  ·have e5:(v==5)=false:=ar.2 (by omega);clear h4
   go_wp2_with fail
   refine(eI _ 0 s er _ I4.o.cur).mono ?_;rintro ee wL ⟨rfl,hb⟩;have IL:=aa (I4.o.below hb);clear hb
   by_cases hlt:0<s.size
   ·have d1:(0:Int)<((s.size- 0:Nat):Int):=by omega
    have HE3:Hid ((if er=0 then 5 else er)=E1):=aa (by rw[HE1.o,mb,if_pos hlt]);clear hlt
    go_wp2_with fail
    refine(cB _ 0 s er 5 _ IL.o.cur).mono ?_;rintro ee wF ⟨rfl,hc,hm⟩;rw[HE3.o]at hc;have IF:=aa (IL.o.turn hc hm);clear hc hm
    have hl:=cf IF.o.pk
    go_wp2_with fail
    refine(fb v (aP k id 0 []) _ _ IF.o.into HOK.o).mono ?_;rintro ee wV ⟨rfl,hb⟩;have IV:=aa (IF.o.below hb);clear hb hl
    go_wp2_with fail
    refine(cB _ 0 s E1 (eS v (aP k id 0 [])) _ IV.o.cur).mono ?_;rintro ee wG ⟨rfl,hc,hm⟩;have IG:=aa (IV.o.turn hc hm);clear hc hm
    have HW2:=HW;generalize (if E1=0 then eS v (aP k id 0 [])else E1)=E2 at*
    go_wp2_with fail
    refine(dG _ 0 s E2 _ IG.o.cur).mono ?_;rintro ee wH ⟨rfl,rfl⟩;have hl:=cf IG.o.pk;have hst:=aW IG.o.res;rcases HW2.o with ⟨h2,hr⟩ | ⟨h2,hr⟩
    ·subst h2;have HR:=aa hr;clear hr
     go_wp2;refine av (aI rfl _ rfl IG.o.some.2.1) rfl ?_;exact fo HR.o IG.o.some.2.2 IG.o.some.1
    ·have e0:(E2 !=0)=true:=aA.2 h2;have HR:=aa hr;clear hr h2
     go_wp2;refine av (aI rfl _ rfl IG.o.none.2) rfl ?_;exact cL HR.o IG.o.none.1
   ·have d1:((s.size- 0:Nat):Int)<=0:=by omega
    have HE3:Hid (er=E1):=aa (by
     rw[HE1.o]
     by_cases h:er=0
     ·rw[ae (fun x=>x h),ae hlt,h]
     ·rw[if_pos h])
    have IF:Hid (RI w w.heap.size w2.heap.size (w.heap.size+1) k id 0 [] none 0 s 0 E1 wL):=aa (HE3.o▸IL.o);clear hlt;have hl:=cf IF.o.pk
    go_wp2_with fail
    refine(fb v (aP k id 0 []) _ _ IF.o.into HOK.o).mono ?_;rintro ee wV ⟨rfl,hb⟩;have IV:=aa (IF.o.below hb);clear hb hl
    go_wp2_with fail
    refine(cB _ 0 s E1 (eS v (aP k id 0 [])) _ IV.o.cur).mono ?_;rintro ee wG ⟨rfl,hc,hm⟩;have IG:=aa (IV.o.turn hc hm);clear hc hm
    have HW2:=HW;generalize (if E1=0 then eS v (aP k id 0 [])else E1)=E2 at*
    go_wp2_with fail
    refine(dG _ 0 s E2 _ IG.o.cur).mono ?_;rintro ee wH ⟨rfl,rfl⟩;have hl:=cf IG.o.pk;have hst:=aW IG.o.res;rcases HW2.o with ⟨h2,hr⟩ | ⟨h2,hr⟩
    ·subst h2;have HR:=aa hr;clear hr
     go_wp2;refine av (aI rfl _ rfl IG.o.some.2.1) rfl ?_;exact fo HR.o IG.o.some.2.2 IG.o.some.1
    ·have e0:(E2 !=0)=true:=aA.2 h2;have HR:=aa hr;clear hr h2
     go_wp2;refine av (aI rfl _ rfl IG.o.none.2) rfl ?_;exact cL HR.o IG.o.none.1
  ·have e5:(v==5)=true:=aK.2 h5;clear h5
   go_wp2_with fail
   rw[vS];refine(dG _ 0 s er _ I4.o.cur).mono ?_;rintro ee wE ⟨rfl,rfl⟩
   go_wp2_with fail
   refine(eI _ 0 s er _ I4.o.cur).mono ?_;rintro ee wL ⟨rfl,hb⟩;have IL:=aa (I4.o.below hb);clear hb
   by_cases hlt:0<s.size
   ·have d1:(0:Int)<((s.size- 0:Nat):Int):=by omega
    have HE3:Hid ((if er=0 then 5 else er)=E1):=aa (by rw[HE1.o,mb,if_pos hlt]);clear hlt
    go_wp2_with fail
    refine(cB _ 0 s er 5 _ IL.o.cur).mono ?_;rintro ee wF ⟨rfl,hc,hm⟩;rw[HE3.o]at hc;have IF:=aa (IL.o.turn hc hm);clear hc hm
    have hl:=cf IF.o.pk
    go_wp2_with fail
    refine(fb v (aP k id 0 []) _ _ IF.o.into HOK.o).mono ?_;rintro ee wV ⟨rfl,hb⟩;have IV:=aa (IF.o.below hb);clear hb hl
    go_wp2_with fail
    refine(cB _ 0 s E1 (eS v (aP k id 0 [])) _ IV.o.cur).mono ?_;rintro ee wG ⟨rfl,hc,hm⟩;have IG:=aa (IV.o.turn hc hm);clear hc hm
    have HW2:=HW;generalize (if E1=0 then eS v (aP k id 0 [])else E1)=E2 at*
    go_wp2_with fail
    refine(dG _ 0 s E2 _ IG.o.cur).mono ?_;rintro ee wH ⟨rfl,rfl⟩;have hl:=cf IG.o.pk;have hst:=aW IG.o.res;rcases HW2.o with ⟨h2,hr⟩ | ⟨h2,hr⟩
    ·subst h2;have HR:=aa hr;clear hr
     go_wp2;refine av (aI rfl _ rfl IG.o.some.2.1) rfl ?_;exact fo HR.o IG.o.some.2.2 IG.o.some.1
    ·have e0:(E2 !=0)=true:=aA.2 h2;have HR:=aa hr;clear hr h2
     go_wp2;refine av (aI rfl _ rfl IG.o.none.2) rfl ?_;exact cL HR.o IG.o.none.1
   ·have d1:((s.size- 0:Nat):Int)<=0:=by omega
    have HE3:Hid (er=E1):=aa (by
     rw[HE1.o]
     by_cases h:er=0
     ·rw[ae (fun x=>x h),ae hlt,h]
     ·rw[if_pos h])
    have IF:Hid (RI w w.heap.size w2.heap.size (w.heap.size+1) k id 0 [] none 0 s 0 E1 wL):=aa (HE3.o▸IL.o);clear hlt;have hl:=cf IF.o.pk
    go_wp2_with fail
    refine(fb v (aP k id 0 []) _ _ IF.o.into HOK.o).mono ?_;rintro ee wV ⟨rfl,hb⟩;have IV:=aa (IF.o.below hb);clear hb hl
    go_wp2_with fail
    refine(cB _ 0 s E1 (eS v (aP k id 0 [])) _ IV.o.cur).mono ?_;rintro ee wG ⟨rfl,hc,hm⟩;have IG:=aa (IV.o.turn hc hm);clear hc hm
    have HW2:=HW;generalize (if E1=0 then eS v (aP k id 0 [])else E1)=E2 at*
    go_wp2_with fail
    refine(dG _ 0 s E2 _ IG.o.cur).mono ?_;rintro ee wH ⟨rfl,rfl⟩;have hl:=cf IG.o.pk;have hst:=aW IG.o.res;rcases HW2.o with ⟨h2,hr⟩ | ⟨h2,hr⟩
    ·subst h2;have HR:=aa hr;clear hr
     go_wp2;refine av (aI rfl _ rfl IG.o.some.2.1) rfl ?_;exact fo HR.o IG.o.some.2.2 IG.o.some.1
    ·have e0:(E2 !=0)=true:=aA.2 h2;have HR:=aa hr;clear hr h2
     go_wp2;refine av (aI rfl _ rfl IG.o.none.2) rfl ?_;exact cL HR.o IG.o.none.1
 ·have HT:Hid (aH s 0 0 2=(s.extract 0 2,2,0)):=aa (dZ (k:=2) (by omega));obtain⟨er,her⟩:∃e:Int,e=0:=⟨0,rfl⟩;have hc3:=HC2.o;rw[HT.o]at hc3
  replace hc3:Cur w2 (w.heap.size+1) s 2 er:=her▸hc3
  have HW0:=aa (AH HK.o h2);have I4:=aa (I3.o er 2 hc3);clear hc3 HC2 I3;rcases h45 with h4| h5
  ·have e5:(v==5)=false:=ar.2 (by omega);have hv:it v k s=(0,[],2,0):=by unfold it;rw[ae (by omega)]
   rw[hv]at HNUM;obtain⟨E1,HE1'⟩:∃E:Int,E=fP v k s:=⟨_,rfl⟩;have HE1:Hid (E1=if er≠0 then er else if 2<s.size then 5 else 0):=aa (by rw[HE1',her];unfold fP;rw[hv]);have HW1:=HW0.o;rw[<-HE1',HNUM.o]at HW1;have HW:=aa HW1;have HOK:Hid (PkOk (aP k id 0 [])):=aa (iw (by simp) (by simp));clear h4 HE1' HW1 hv HNUM HW0 h2 her
   go_wp2_with fail
   refine(eI _ 2 s er _ I4.o.cur).mono ?_;rintro ee wL ⟨rfl,hb⟩;have IL:=aa (I4.o.below hb);clear hb
   by_cases hlt:2<s.size
   ·have d1:(0:Int)<((s.size- 2:Nat):Int):=by omega
    have HE3:Hid ((if er=0 then 5 else er)=E1):=aa (by rw[HE1.o,mb,if_pos hlt]);clear hlt
    go_wp2_with fail
    refine(cB _ 2 s er 5 _ IL.o.cur).mono ?_;rintro ee wF ⟨rfl,hc,hm⟩;rw[HE3.o]at hc;have IF:=aa (IL.o.turn hc hm);clear hc hm
    have hl:=cf IF.o.pk
    go_wp2_with fail
    refine(fb v (aP k id 0 []) _ _ IF.o.into HOK.o).mono ?_;rintro ee wV ⟨rfl,hb⟩;have IV:=aa (IF.o.below hb);clear hb hl
    go_wp2_with fail
    refine(cB _ 2 s E1 (eS v (aP k id 0 [])) _ IV.o.cur).mono ?_;rintro ee wG ⟨rfl,hc,hm⟩;have IG:=aa (IV.o.turn hc hm);clear hc hm
    have HW2:=HW;generalize (if E1=0 then eS v (aP k id 0 [])else E1)=E2 at*
    go_wp2_with fail
    refine(dG _ 2 s E2 _ IG.o.cur).mono ?_;rintro ee wH ⟨rfl,rfl⟩;have hl:=cf IG.o.pk;have hst:=aW IG.o.res;rcases HW2.o with ⟨h2,hr⟩ | ⟨h2,hr⟩
    ·subst h2;have HR:=aa hr;clear hr
     go_wp2;refine av (aI rfl _ rfl IG.o.some.2.1) rfl ?_;exact fo HR.o IG.o.some.2.2 IG.o.some.1
    ·have e0:(E2 !=0)=true:=aA.2 h2;have HR:=aa hr;clear hr h2
     go_wp2;refine av (aI rfl _ rfl IG.o.none.2) rfl ?_;exact cL HR.o IG.o.none.1
   ·have d1:((s.size- 2:Nat):Int)<=0:=by omega
    have HE3:Hid (er=E1):=aa (by
     rw[HE1.o]
     by_cases h:er=0
     ·rw[ae (fun x=>x h),ae hlt,h]
     ·rw[if_pos h])
    have IF:Hid (RI w w.heap.size w2.heap.size (w.heap.size+1) k id 0 [] none 0 s 2 E1 wL):=aa (HE3.o▸IL.o);clear hlt;have hl:=cf IF.o.pk
    go_wp2_with fail
    refine(fb v (aP k id 0 []) _ _ IF.o.into HOK.o).mono ?_;rintro ee wV ⟨rfl,hb⟩;have IV:=aa (IF.o.below hb);clear hb hl
    go_wp2_with fail
    refine(cB _ 2 s E1 (eS v (aP k id 0 [])) _ IV.o.cur).mono ?_;rintro ee wG ⟨rfl,hc,hm⟩;have IG:=aa (IV.o.turn hc hm);clear hc hm
    have HW2:=HW;generalize (if E1=0 then eS v (aP k id 0 [])else E1)=E2 at*
    go_wp2_with fail
    refine(dG _ 2 s E2 _ IG.o.cur).mono ?_;rintro ee wH ⟨rfl,rfl⟩;have hl:=cf IG.o.pk;have hst:=aW IG.o.res;rcases HW2.o with ⟨h2,hr⟩ | ⟨h2,hr⟩
    ·subst h2;have HR:=aa hr;clear hr
     go_wp2;refine av (aI rfl _ rfl IG.o.some.2.1) rfl ?_;exact fo HR.o IG.o.some.2.2 IG.o.some.1
    ·have e0:(E2 !=0)=true:=aA.2 h2;have HR:=aa hr;clear hr h2
     go_wp2;refine av (aI rfl _ rfl IG.o.none.2) rfl ?_;exact cL HR.o IG.o.none.1
  ·have e5:(v==5)=true:=aK.2 h5;have hv:it v k s=dg k s 2:=by unfold it;rw[if_pos h5]
   rw[hv]at HNUM;obtain⟨E1,HE1'⟩:∃E:Int,E=fP v k s:=⟨_,rfl⟩;have HE0:Hid (E1=if(dg k s 2).2.2.2≠0 then(dg k s 2).2.2.2 else if(dg k s 2).2.2.1<s.size then 5 else 0):=aa (by rw[HE1'];unfold fP;rw[hv]);have HW1:=HW0.o;rw[<-HE1',HNUM.o]at HW1;have HW2:=aa HW1;have HOK0:Hid (PkOk (aP k id (dg k s 2).1 (dg k s 2).2.1)):=aa (iw (nN HS.o) (by have:=nM k s 2;omega));clear h5 HE1' HW1 hv HNUM HW0 h2;subst her
   go_wp2_with fail
   rw[vS];refine(dG _ 2 s 0 _ I4.o.cur).mono ?_;rintro ee wE ⟨rfl,rfl⟩
   go_wp2_with fail
   refine(vQ _ _ 2 s k id _ I4.o.pk I4.o.cur HS.o).mono ?_;rintro ee wR hr;obtain⟨rfl,A,n,hI⟩:=I4.o.rest hr;generalize dg k s 2=R at*;obtain⟨c,l,a,er⟩:=R;simp only at HE0 HW2 HOK0 hI;have HE1:=HE0;have HW:=HW2;have HOK:=HOK0
   have I4:=aa hI;clear hI hr
   go_wp2_with fail
   refine(eI _ a s er _ I4.o.cur).mono ?_;rintro ee wL ⟨rfl,hb⟩;have IL:=aa (I4.o.below hb);clear hb
   by_cases hlt:a<s.size
   ·have d1:(0:Int)<((s.size- a:Nat):Int):=by omega
    have HE3:Hid ((if er=0 then 5 else er)=E1):=aa (by rw[HE1.o,mb,if_pos hlt]);clear hlt
    go_wp2_with fail
    refine(cB _ a s er 5 _ IL.o.cur).mono ?_;rintro ee wF ⟨rfl,hc,hm⟩;rw[HE3.o]at hc;have IF:=aa (IL.o.turn hc hm);clear hc hm
    have hl:=cf IF.o.pk
    go_wp2_with fail
    refine(fb v (aP k id c l) _ _ IF.o.into HOK.o).mono ?_;rintro ee wV ⟨rfl,hb⟩;have IV:=aa (IF.o.below hb);clear hb hl
    go_wp2_with fail
    refine(cB _ a s E1 (eS v (aP k id c l)) _ IV.o.cur).mono ?_;rintro ee wG ⟨rfl,hc,hm⟩;have IG:=aa (IV.o.turn hc hm);clear hc hm
    have HW2:=HW;generalize (if E1=0 then eS v (aP k id c l)else E1)=E2 at*
    go_wp2_with fail
    refine(dG _ a s E2 _ IG.o.cur).mono ?_;rintro ee wH ⟨rfl,rfl⟩;have hl:=cf IG.o.pk;have hst:=aW IG.o.res;rcases HW2.o with ⟨h2,hr⟩ | ⟨h2,hr⟩
    ·subst h2;have HR:=aa hr;clear hr
     go_wp2;refine av (aI rfl _ rfl IG.o.some.2.1) rfl ?_;exact fo HR.o IG.o.some.2.2 IG.o.some.1
    ·have e0:(E2 !=0)=true:=aA.2 h2;have HR:=aa hr;clear hr h2
     go_wp2;refine av (aI rfl _ rfl IG.o.none.2) rfl ?_;exact cL HR.o IG.o.none.1
   ·have d1:((s.size- a:Nat):Int)<=0:=by omega
    have HE3:Hid (er=E1):=aa (by
     rw[HE1.o]
     by_cases h:er=0
     ·rw[ae (fun x=>x h),ae hlt,h]
     ·rw[if_pos h])
    have IF:Hid (RI w w.heap.size w2.heap.size (w.heap.size+1) k id c l A n s a E1 wL):=aa (HE3.o▸IL.o);clear hlt;have hl:=cf IF.o.pk
    go_wp2_with fail
    refine(fb v (aP k id c l) _ _ IF.o.into HOK.o).mono ?_;rintro ee wV ⟨rfl,hb⟩;have IV:=aa (IF.o.below hb);clear hb hl
    go_wp2_with fail
    refine(cB _ a s E1 (eS v (aP k id c l)) _ IV.o.cur).mono ?_;rintro ee wG ⟨rfl,hc,hm⟩;have IG:=aa (IV.o.turn hc hm);clear hc hm
    have HW2:=HW;generalize (if E1=0 then eS v (aP k id c l)else E1)=E2 at*
    go_wp2_with fail
    refine(dG _ a s E2 _ IG.o.cur).mono ?_;rintro ee wH ⟨rfl,rfl⟩;have hl:=cf IG.o.pk;have hst:=aW IG.o.res;rcases HW2.o with ⟨h2,hr⟩ | ⟨h2,hr⟩
    ·subst h2;have HR:=aa hr;clear hr
     go_wp2;refine av (aI rfl _ rfl IG.o.some.2.1) rfl ?_;exact fo HR.o IG.o.some.2.2 IG.o.some.1
    ·have e0:(E2 !=0)=true:=aA.2 h2;have HR:=aa hr;clear hr h2
     go_wp2;refine av (aI rfl _ rfl IG.o.none.2) rfl ?_;exact cL HR.o IG.o.none.1
end
def eu(k f:Int):Bool:=if k=3 then gd f else decide (f=gg k)
def ff(v k f:Int):Int:=if ba v=false then 2 else if dS v k=false then 8 else if eu k f=false then 7 else 0
structure Hdr where
 k:Int
 f:Int
 n:Nat
def lC:Hdr:=⟨0,0,0⟩
def Cx(h:Hdr):Value:=.agg #[.int .i64 h.k,.int .i64 h.f,.int .i64 h.n]
def cU(s:ByteArray):Nat:=((ls s).headD 0).toNat
def hdR(v:Int)(s:ByteArray):Hdr×Nat×Int:=
 if ba v=false then(lC,0,2)
 else if s.size=0 then(lC,0,3)
 else if ff v (cU s/ 16:Nat) (cU s% 16:Nat)≠0 then(lC,0,ff v (cU s/ 16:Nat) (cU s% 16:Nat))
 else if(bm (ls (s.extract 1 s.size))).2.2≠0 then(lC,0,(bm (ls (s.extract 1 s.size))).2.2)
 else(⟨(cU s/ 16:Nat),(cU s% 16:Nat),(bm (ls (s.extract 1 s.size))).1⟩,(bm (ls (s.extract 1 s.size))).2.1+1,0)
def hdS(k f:Int)(n:Nat):List UInt8:=da (16*k+f).toNat 1++eP n
theorem nf{v k f:Int}:ff v k f=0↔ba v=true/\dS v k=true/\eu k f=true:=by
 unfold ff;cases ba v<;>cases dS v k<;>cases eu k f<;>simp
theorem vk{v k:Int}(h:dS v k=true):1<=k/\k<=15:=by
 have:=aR h;omega
theorem rm{k f:Int}(h:eu k f=true):0<=f/\f<=15:=by
 unfold eu at h
 by_cases h3:k=3
 ·rw[if_pos h3]at h;have:=aR h;omega
 ·rw[ae h3]at h;have:=aR h;unfold gg at this;split at this<;>omega
theorem KO(f:Int):eu 3 f=gd f:=if_pos rfl
theorem jP(s:ByteArray):ls (s.extract 1 s.size)=(ls s).drop 1:=by
 unfold ls;rw[Lib.extract_data,bt];rw[bU];show s.data.size- 1<=s.data.size- 1;exact ac _
theorem EC(k f:Int)(n:Nat):2<=(hdS k f n).length/\(hdS k f n).length<=5:=by
 unfold hdS;rw[List.length_append,fM];have h1:0<(eP n).length:=by
  unfold eP ig;split<;>simp
 have h2:(eP n).length<=4:=mO 3 n;omega
theorem Ab{v k f:Int}{n:Nat}(hc:ff v k f=0)(hn:n<=268435455){s:ByteArray}{R:List UInt8}(hs:ls s=hdS k f n++R):
  hdR v s=(⟨k,f,n⟩,(hdS k f n).length,0):=by
 obtain⟨h1,h2,h3⟩:=nf.1 hc;have r1:=vk h2;have r2:=rm h3;obtain⟨a,ha,hb⟩:=D8 (16*k+f) (by omega) (by omega);have e1:ls s=a :: (eP n++R):=by
  rw[hs];unfold hdS;rw[ha];rfl
 have hz:s.size≠0:=by
  intro h0;have:=aN s;rw[e1,h0]at this;simp at this
 have hB:cU s=a.toNat:=by
  unfold cU;rw[e1];rfl
 have e2:((cU s/ 16:Nat):Int)=k:=by rw[hB];omega
 have e3:((cU s% 16:Nat):Int)=f:=by rw[hB];omega
 have e4:bm (ls (s.extract 1 s.size))=(n,(eP n).length,0):=by
  rw[jP,e1];exact wz n hn R
 unfold hdR;rw[ae (by rw[h1];decide),ae hz,e2,e3,hc,e4,ae (by decide),ae (fun x=>x rfl)];have:(hdS k f n).length=(eP n).length+1:=by
  unfold hdS;rw[List.length_append,fM,Nat.add_comm]
 rw[this]
theorem kw{v:Int}{s:ByteArray}{h:Hdr}{a:Nat}(hr:hdR v s=(h,a,0)):
  ff v h.k h.f=0/\h.n<=268435455/\ls s=hdS h.k h.f h.n++(ls s).drop a/\a=(hdS h.k h.f h.n).length/\a<=s.size:=by
 unfold hdR at hr;split at hr
 ·simp at hr
 split at hr
 ·simp at hr
 rename_i h1 h2;split at hr
 ·rename_i h3;simp only[bG]at hr;exact absurd hr.2.2 h3
 split at hr
 ·rename_i h3 h4;simp only[bG]at hr;exact absurd hr.2.2 h4
 rename_i h3 h4;simp only[bG]at hr;obtain⟨rfl,rfl,-⟩:=hr;have h3':ff v (cU s/ 16:Nat) (cU s% 16:Nat)=0:=il.1 h3;have h4':(bm (ls (s.extract 1 s.size))).2.2=0:=il.1 h4;obtain⟨b1,b2,b3⟩:=mE (l:=ls (s.extract 1 s.size)) (n:=(bm (ls (s.extract 1 s.size))).1) (k:=(bm (ls (s.extract 1 s.size))).2.1) (by rw[<-h4']);have hsz:=jH (ls (s.extract 1 s.size));generalize bm (ls (s.extract 1 s.size))=r at*;rw[jP]at b1 hsz;have hl:=aN s;cases hx:ls s with
 | nil=>rw[hx]at hl;exact absurd hl.symm h2
 | cons x l=>
   have hB:cU s=x.toNat:=by unfold cU;rw[hx];rfl
   have hb:=x.toNat_lt;rw[hx]at b1 hsz hl;simp only[ji,cS]at b1 hsz;have e1:da (16*((cU s/ 16:Nat):Int)+((cU s% 16:Nat):Int)).toNat 1=[x]:=by
    rw[hB,show(16*((x.toNat/ 16:Nat):Int)+((x.toNat% 16:Nat):Int)).toNat=x.toNat by omega];have:=pZ [x] rfl;rw[show es [x]=x.toNat by simp[es]]at this;exact this
   refine⟨h3',b3,?_,?_,?_⟩
   ·show x :: l=(da (16*((cU s/ 16:Nat):Int)+((cU s% 16:Nat):Int)).toNat 1++eP r.1)++(x :: l).drop (r.2.1+1);rw[e1,ji];show x :: l=x :: (eP r.1++l.drop r.2.1);rw[<-b1]
   ·show r.2.1+1=(da (16*((cU s/ 16:Nat):Int)+((cU s% 16:Nat):Int)).toNat 1++eP r.1).length;rw[List.length_append,fM,<-b2,Nat.add_comm]
   ·show r.2.1+1<=s.size;simp only[bM]at hl;omega
end Go.Proofs.YtbdgkkmbnahgiaaGreatDoor
