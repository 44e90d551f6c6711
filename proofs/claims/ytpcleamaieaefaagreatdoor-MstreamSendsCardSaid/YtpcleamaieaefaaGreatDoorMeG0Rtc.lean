/- A part of what the laws stand on: Rtc, MSubP, SubD, SubE, OwnK, SubF, Rtd. -/
import Derived.Test.YtpcleamaieaefaaGreatDoorMeG0MCnp
import Derived.Test.YtpcleamaieaefaaGreatDoorMeG0OrdD
import Derived.Deep.RegionLaw
import Derived.Deep.LoopGhost
set_option maxRecDepth 10000
set_option maxHeartbeats 8000000
namespace Go.Proofs.YtpcleamaieaefaaGreatDoor
open Go.RowKit
theorem Bu (s:ByteArray):(dJ s).2.1≤s.size∧(dJ s).1.size≤65535:=by
 unfold dJ
 split
 ·exact⟨ag _,ag _⟩
 ·split
  ·exact⟨ag _,ag _⟩
  ·refine⟨by show 2+br s 0 0 2≤s.size;omega,?_⟩;rw[aj];have:=gU s 0 0 (ag _);omega
theorem uq (s:ByteArray):(bL s).2.1≤s.size∧(bL s).1.size≤65535:=by
 unfold bL
 split
 ·exact⟨ag _,ag _⟩
 ·exact Bu s
def rbC (t:ByteArray) (a:Nat) (e:Int):ByteArray×Nat×Int:=if e≠0 then(⟨#[]⟩,a,e)else((dJ (t.extract a t.size)).1,a+(dJ (t.extract a t.size)).2.1,(dJ (t.extract a t.size)).2.2)
def rtC (t:ByteArray) (a:Nat) (e:Int):ByteArray×Nat×Int:=if e≠0 then(⟨#[]⟩,a,e)else((bL (t.extract a t.size)).1,a+(bL (t.extract a t.size)).2.1,(bL (t.extract a t.size)).2.2)
theorem yO {t:ByteArray} {a:Nat} {e:Int} (he:e≠0):eB t a e=(⟨#[]⟩,a,e):=by
 unfold eB;rw[fY he];exact fY he
theorem xP {t:ByteArray} {a:Nat} {e:Int} (he:e≠0):(fX t a e).2.2=e:=by
 unfold fX;rw[yO he];simp only
 split
 ·rfl
 ·exact ae he
theorem Fu {t:ByteArray} {a:Nat} (h:a≤t.size) (e:Int):(rbC t a e).2.2=(eB t a e).2.2∧((eB t a e).2.2=0→rbC t a e=eB t a e):=by
 by_cases he:e=0
 rotate_left
 ·have h1:rbC t a e=eB t a e:=by rw[yO he];exact if_pos he
  exact⟨by rw[h1],fun _=>h1⟩
 subst he;have hz:(t.extract a t.size).size=t.size- a:=by rw[aj];omega
 by_cases h2:t.size<a+2
 ·have h1:rbC t a 0=eB t a 0:=by
   unfold rbC eB;rw[ae (fun x=>x rfl),show(2:Int)=((2:Nat):Int)from rfl,kH (by omega)];simp only;rw[fY (by decide)];unfold dJ;rw[if_pos (by omega)];rfl
  exact⟨by rw[h1],fun _=>h1⟩
 have hn:br (t.extract a t.size) 0 0 2=br t a 0 2:=by
  unfold br;rw[show(2:Int)=((2:Nat):Int)from rfl,dZ (t:=t.extract a t.size) (by omega),dZ (t:=t) (by omega)];simp only;rw[db,db,ju,cS]
 have hB:eB t a 0=aH t (a+2) 0 (br t a 0 2:Nat):=by
  unfold eB;rw[show aH t a 0 2=(t.extract a (a+2),a+2,0)from dZ (k:=2) (by omega)]
 have hR:rbC t a 0=((dJ (t.extract a t.size)).1,a+(dJ (t.extract a t.size)).2.1,(dJ (t.extract a t.size)).2.2):=ae (fun x=>x rfl);rw[hB,hR];unfold dJ;rw[ae (by omega),hn];generalize br t a 0 2=n
 by_cases h3:t.size<a+2+n
 ·rw[kH (by omega),if_pos (by omega)];exact⟨rfl,fun x=>by cases x⟩
 ·rw[dZ (by omega),ae (by omega)];refine⟨rfl,fun _=>?_⟩;have e1:(t.extract a t.size).extract 2 (2+n)=t.extract (a+2) (a+2+n):=eX (by
   rw[db,db,ju,et])
  simp only;rw[e1,Nat.add_assoc]
theorem Fq {t:ByteArray} {a:Nat} (h:a≤t.size) (e:Int):(rtC t a e).2.2=(fX t a e).2.2∧((fX t a e).2.2=0→rtC t a e=fX t a e):=by
 by_cases he:e=0
 rotate_left
 ·have h1:(rtC t a e).2.2=e:=by rw[show rtC t a e=(⟨#[]⟩,a,e)from if_pos he]
  exact⟨by rw[h1,xP he],fun x=>absurd ((xP he).symm.trans x) he⟩
 subst he;have hR:rtC t a 0=((bL (t.extract a t.size)).1,a+(bL (t.extract a t.size)).2.1,(bL (t.extract a t.size)).2.2):=ae (fun x=>x rfl);have hb:rbC t a 0=((dJ (t.extract a t.size)).1,a+(dJ (t.extract a t.size)).2.1,(dJ (t.extract a t.size)).2.2):=ae (fun x=>x rfl);obtain⟨g1,g2⟩:=Fu h 0;rw[hR]
 by_cases hz:(eB t a 0).2.2=0
 ·have g3:=g2 hz;rw[hb]at g3;have g4:(dJ (t.extract a t.size)).1=(eB t a 0).1:=by rw[←g3]
  have g5:(dJ (t.extract a t.size)).2.2=0:=by rw[←hz,←g3]
  by_cases hv:bN (eB t a 0).1=true
  ·have hU:bL (t.extract a t.size)=dJ (t.extract a t.size):=by
    unfold bL;rw[ae (fun y=>by rw[g4,hv]at y;cases y.2)]
   have hT:fX t a 0=eB t a 0:=by unfold fX;rw[if_pos hv]
   rw[hU,hT,←g3];exact⟨rfl,fun _=>rfl⟩
  ·have hU:bL (t.extract a t.size)=(⟨#[]⟩,0,6):=by
    unfold bL;rw[if_pos ⟨g5,by rw[g4];simpa using hv⟩]
   have hT:(fX t a 0).2.2=6:=by
    unfold fX;rw[ae hv];simp only;rw[hz];rfl
   rw[hU,hT];exact⟨rfl,fun x=>by cases x⟩
 ·have g5:(dJ (t.extract a t.size)).2.2=(eB t a 0).2.2:=by rw[←g1,hb]
  have hU:bL (t.extract a t.size)=dJ (t.extract a t.size):=by
   unfold bL;rw[ae (fun y=>hz (g5.symm.trans y.1))]
  have hT:(fX t a 0).2.2=(eB t a 0).2.2:=by
   unfold fX;simp only
   split
   ·rfl
   ·exact ae hz
  rw[hU,hT];exact⟨g5,fun x=>absurd x hz⟩
theorem Bt (kind:Int) (s:ByteArray):(aZ kind s).2.1≤s.size:=by
 by_cases h:(aZ kind s).2.2=0
 ·exact(fd (kind:=kind) (s:=s) (l:=(aZ kind s).1) (n:=(aZ kind s).2.1) (by rw[←h])).2.2
 ·rw[fZ h];exact ag _
theorem Ec (v k:Int) {t:ByteArray} {a:Nat} (e:Int) (h:a≤t.size):(fv v k t a e).2.1≤t.size:=by
 unfold fv
 split
 ·exact h
 ·have:=Bt k (t.extract a t.size);rw[aj]at this;simp only;omega
theorem pS (v:Int) (w:World):Calls Tryz.prog 45 #[.int .i64 v] w fun e w'=>e= .returned (.bool (ba v))∧w=w':=by
 have HE:Hid (ba v=decide (v=4∨v=5)):=aa rfl
 by_cases h4:v=4
 ·have HX:Hid (ba v=true):=aa (by rw[HE.out];exact au (.inl h4));have e4:(v==4)=true:=aK.2 h4;clear h4
  go_enter Tryz.func45,Tryz.ntmps45
  go_wp2
  go_ret
  exact⟨by rw[HX.out];rfl,rfl⟩
 have e4:(v==4)=false:=ar.2 h4
 by_cases h5:v=5
 ·have HX:Hid (ba v=true):=aa (by rw[HE.out];exact au (.inr h5));have e5:(v==5)=true:=aK.2 h5;clear h4 h5
  go_enter Tryz.func45,Tryz.ntmps45
  go_wp2
  go_ret
  exact⟨by rw[HX.out];rfl,rfl⟩
 ·have HX:Hid (ba v=false):=aa (by rw[HE.out];exact ah (by omega));have e5:(v==5)=false:=ar.2 h5;clear h4 h5
  go_enter Tryz.func45,Tryz.ntmps45
  go_wp2
  go_ret
  exact⟨by rw[HX.out];rfl,rfl⟩
def BS (f:Fi):Int:=f.qos% 4+f.handling% 4*16+pc f.noLocal 4+pc f.asPub 8
def fiL (k:Int) (f:Fi):List UInt8:=ls (cQ f.topic)++(if k=8 then [UInt8.ofNat (BS f).toNat]else [])
def cdL (l:List Int):List UInt8:=l.map fun c=>UInt8.ofNat c.toNat
def Bg (v:Int) (p:Pk):List UInt8:=da p.id.toNat 2++gP v p.kind p.props
def sbS (v:Int) (p:Pk):List UInt8:=Bg v p++p.filters.flatMap (fiL p.kind)++cdL p.codes
def sbB (v:Int) (p:Pk):ByteArray×Int:=if sbE v p=0 then(⟨(sbS v p).toArray⟩,0)else(⟨#[]⟩,sbE v p)
def iU (v:Int) (n:Nat):Bool:=decide (63<n) || (decide (v=4)&&decide (3<n))
def vB (t:ByteArray) (n:Nat):Fi:=⟨t,((n% 4:Nat):Int),decide (n/ 4% 2=1),decide (n/ 8% 2=1),((n/ 16% 4:Nat):Int)⟩
def opR (v:Int) (t:ByteArray) (a:Nat) (e:Int):Nat×Nat×Int:=
 (br t a e 1,(aH t a e 1).2.1,if iU v (br t a e 1)=true then fh (aH t a e 1).2.2 7 else(aH t a e 1).2.2)
def fiR (v k:Int) (t:ByteArray) (a:Nat):Fi×Nat×Int:=
 if k=8 then(vB (rtC t a 0).1 (opR v t (rtC t a 0).2.1 (rtC t a 0).2.2).1,(opR v t (rtC t a 0).2.1 (rtC t a 0).2.2).2.1,(opR v t (rtC t a 0).2.1 (rtC t a 0).2.2).2.2)
 else(⟨(rtC t a 0).1,0,false,false,0⟩,(rtC t a 0).2.1,(rtC t a 0).2.2)
def lsR (v k:Int) (t:ByteArray):Nat→Nat→Int→List Fi→List Int→List Fi×List Int×Nat×Int
 | 0,a,e,fi,cd=>(fi,cd,a,e)
 | n+1,a,e,fi,cd=>
   if e≠0∨t.size≤a then(fi,cd,a,e)
   else if jm k=true then lsR v k t n (fiR v k t a).2.1 (fiR v k t a).2.2 (fi++[(fiR v k t a).1]) cd
   else lsR v k t n (a+1) 0 fi (cd++[((br t a 0 1:Nat):Int)])
def lh (v k:Int) (s:ByteArray):List Pr×Nat×Int:=fv v k s (aH s 0 0 2).2.1 (aH s 0 0 2).2.2
def li (v k:Int) (s:ByteArray):List Fi×List Int×Nat×Int:=lsR v k s (s.size+1) (lh v k s).2.1 (lh v k s).2.2 [] []
def jf (k:Int) (i:Nat) (l:List Pr) (fi:List Fi) (cd:List Int):Pk:={pk0 with kind:=k,id:=(i:Int),props:=l,filters:=fi,codes:=cd}
def jj (v k:Int) (s:ByteArray):Pk:=jf k (br s 0 0 2) (lh v k s).1 (li v k s).1 (li v k s).2.1
def sbR (v k:Int) (s:ByteArray):Pk×Int:=
 if ir v k=false then(pk0,2)
 else if(li v k s).2.2.2≠0 then(pk0,(li v k s).2.2.2)
 else if sbE v (jj v k s)≠0 then(pk0,sbE v (jj v k s))else(jj v k s,0)
theorem ue {v k:Int} (h:ir v k=true):(jm k=true∧(k=8∨k=10))∨(jm k=false∧(k=9∨k=11)):=by
 have h':=aR h
 by_cases hk:k=8∨k=10
 ·exact .inl ⟨au hk,hk⟩
 ·exact .inr ⟨ah hk,by omega⟩
theorem Eh (t:ByteArray) (n:Nat) (h:n<64):BS (vB t n)=n:=by
 have:∀m:Fin 64,BS (vB t m.1)=m.1:=by
  intro m;have e:BS (vB t m.1)=BS (vB ⟨#[]⟩ m.1):=rfl;rw[e];clear e
  revert m
  decide+kernel
 exact this ⟨n,h⟩
theorem Fz {t:ByteArray} {a:Nat} {b:UInt8} {rest:List UInt8} (h:(ls t).drop a=b :: rest):a<t.size:=by
 have hl:=congrArg List.length h;rw[bU,bM,aN]at hl;omega
theorem tf {t:ByteArray} {a:Nat} {b:UInt8} {rest:List UInt8} (h:(ls t).drop a=b :: rest):br t a 0 1=b.toNat:=by
 have hlt:=Fz h;rw[show((1:Int))=((1:Nat):Int)from rfl,sc (k:=1) (x:=[b]) (rest:=rest) h rfl (by omega)];simp[es]
theorem vA {v k:Int} {t:ByteArray} {a:Nat} (hk:k=8∨k=10) (ha:a≤t.size) (h:(fiR v k t a).2.2=0):
  a<(fiR v k t a).2.1∧(fiR v k t a).2.1≤t.size∧(ls t).drop a=fiL k (fiR v k t a).1++(ls t).drop (fiR v k t a).2.1:=by
 have hT:∀(e0:(rtC t a 0).2.2=0),a+2≤(rtC t a 0).2.1∧(rtC t a 0).2.1≤t.size∧(ls t).drop a=ls (cQ (rtC t a 0).1)++(ls t).drop (rtC t a 0).2.1:=by
  intro e0;obtain⟨g1,g2⟩:=Fq ha 0;rw[g1]at e0;rw[g2 e0];obtain⟨-,h2,-,-,h5⟩:=sC e0;rw[si,List.append_assoc];refine⟨?_,h2,h5⟩;have hl:=congrArg List.length h5;rw[bU,List.length_append,List.length_append,fM,bU,aN,aN]at hl;omega
 unfold fiR at h⊢;rcases hk with rfl| rfl
 ·rw[if_pos rfl]at h⊢;simp only at h⊢;have hb:iU v (br t (rtC t a 0).2.1 (rtC t a 0).2.2 1)=false:=by
   cases hb:iU v (br t (rtC t a 0).2.1 (rtC t a 0).2.2 1)
   ·rfl
   ·unfold opR at h;rw[hb,if_pos rfl]at h;exact(gW h (by decide)).elim
  unfold opR at h⊢;rw[hb,ae (by decide)]at h;simp only at h⊢;obtain⟨h1,h2,h3⟩:=i7 (k:=1) h;obtain⟨t1,t2,t3⟩:=hT h1;rw[h1]at hb⊢;have h3':aH t (rtC t a 0).2.1 0 1=_:=h3;rw[h3'];simp only;refine⟨by omega,h2,?_⟩;obtain⟨b,hb1⟩:∃b,(ls t).drop (rtC t a 0).2.1=b :: (ls t).drop ((rtC t a 0).2.1+1):=⟨_,bQ (by rw[aN];omega)⟩;have hn:=tf hb1;have hlt:b.toNat<64:=by
   rw[hn]at hb;unfold iU at hb;simp only[Bool.or_eq_false_iff,Ip]at hb;omega
  rw[t3,hb1,hn];unfold fiL;rw[if_pos rfl,Eh _ _ hlt,dN,UInt8.ofNat_toNat,List.append_assoc];rfl
 ·rw[ae (by decide)]at h⊢;simp only at h⊢;obtain⟨t1,t2,t3⟩:=hT h;refine⟨by omega,t2,?_⟩;unfold fiL;rw[ae (by decide),cW];exact t3
theorem qo {v k:Int} {t:ByteArray} (hk:ir v k=true):∀(n a:Nat) (e:Int) (fi:List Fi) (cd:List Int),t.size- a<n→a≤t.size→(lsR v k t n a e fi cd).2.2.2=0→
  e=0∧∃l m,(lsR v k t n a e fi cd).1=fi++l∧(lsR v k t n a e fi cd).2.1=cd++m∧(ls t).drop a=l.flatMap (fiL k)++cdL m∧(jm k=true→m=[])∧(jm k=false→l=[])
 | n+1,a,e,fi,cd,hn,ha,h=>by
   unfold lsR at h⊢
   by_cases hc:e≠0∨t.size≤a
   ·rw[if_pos hc]at h⊢;simp only at h⊢;refine⟨h,[],[],by simp,by simp,?_,fun _=>rfl,fun _=>rfl⟩;have:t.size≤a:=hc.resolve_left (fun x=>x h);rw[gF (by rw[aN];omega)];rfl
   ·rw[ae hc]at h⊢;have he:e=0:=aU.1 fun x=>hc (.inl x);have hlt:a<t.size:=Nat.lt_of_not_le fun x=>hc (.inr x);refine⟨he,?_⟩;rcases ue hk with ⟨hask,hkk⟩ | ⟨hask,hkk⟩
    ·rw[if_pos hask]at h⊢
     by_cases hz:(fiR v k t a).2.2=0
     ·obtain⟨f1,f2,f3⟩:=vA hkk ha hz;obtain⟨-,l,m,g1,g2,g3,g4,g5⟩:=qo hk n _ _ _ _ (by omega) f2 h;refine⟨(fiR v k t a).1 :: l,m,by rw[g1];simp,g2,?_,g4,fun x=>by rw[hask]at x;cases x⟩;rw[f3,g3,cF,List.append_assoc]
     ·exfalso;cases n with
      | zero=>omega
      | succ n=>
        unfold lsR at h;rw[if_pos (.inl hz)]at h;exact hz h
    ·rw[ae (by rw[hask];decide)]at h⊢;obtain⟨-,l,m,g1,g2,g3,g4,g5⟩:=qo hk n _ _ _ _ (by omega) (by omega) h;obtain⟨b,hb1⟩:∃b,(ls t).drop a=b :: (ls t).drop (a+1):=⟨_,bQ (by rw[aN];omega)⟩;have hl:=g5 hask;subst hl;refine⟨[],((br t a 0 1:Nat):Int) :: m,g1,by rw[g2];simp,?_,fun x=>(by rw[hask]at x;cases x),fun _=>rfl⟩;rw[hb1,g3,tf hb1];simp[cdL]
theorem Bf {v k:Int} {s:ByteArray} {q:Pk} (h:sbR v k s=(q,0)):sbE v q=0∧sbS v q=ls s∧q.kind=k:=by
 unfold sbR at h;cases hk:ir v k
 ·rw[hk,if_pos rfl]at h;injection h with _ h;exact absurd h (by decide)
 rw[hk,ae (by decide)]at h
 by_cases hl:(li v k s).2.2.2=0
 rotate_left
 ·rw[if_pos hl]at h;injection h with _ h;exact absurd h hl
 rw[ae (fun x=>x hl)]at h
 by_cases hv:sbE v (jj v k s)=0
 rotate_left
 ·rw[if_pos hv]at h;injection h with _ h;exact absurd h hv
 rw[ae (fun x=>x hv)]at h
 injection h with h _
 subst h;refine⟨hv,?_,rfl⟩;have hle:(lh v k s).2.1≤s.size:=by
  have h0:=dy (t:=s) (a:=0) (ag _) 0 2;unfold lh;exact Ec _ _ _ h0
 unfold li at hl;obtain⟨e1,l,m,g1,g2,g3,g4,g5⟩:=qo hk _ _ _ _ _ (by omega) hle hl;have e1':=e1;unfold lh at e1';obtain⟨p1,p2,p3,p4,p5⟩:=yv (dy (t:=s) (a:=0) (ag _) 0 2) e1';obtain⟨t1,t2,t3⟩:=i7 (k:=2) p1;have t3':aH s 0 0 2=(s.extract 0 2,2,0):=t3;have hb:=lY (t:=s) (a:=0) (by omega);rw[cS]at hb;unfold sbS Bg jj jf;simp only;rw[List.append_assoc,List.append_assoc,dN,hb]
 congr 1
 have hpr:fv v k s (aH s 0 0 2).2.1 (aH s 0 0 2).2.2=lh v k s:=rfl;rw[hpr]at p5;rw[show(aH s 0 0 2).2.1=2 by rw[t3']]at p5;rw[show(0+2:Nat)=2 from rfl,p5]
 congr 1
 unfold li;rw[g1,g2,dX,dX,g3]
end Go.Proofs.YtpcleamaieaefaaGreatDoor
namespace Go.Proofs.YtpcleamaieaefaaGreatDoor
open Go.RowKit
attribute [local go_sem ↓] bD bF bH bI bu
attribute [local go_sem] bc aD bh bg bK bJ bd aY be aO ax cI dC dB dt dj di dA dr dp dn bW co bO bZ bX cz cy cw cu ct cC cn bS bP bR
theorem vV {w w':World} {r:Option Nat} {g:Nat} {t:TypeId} {cs:Array Value} (hg:w.grownBy w' r) (h:Bk w g t cs) (hne:r≠some g):Bk w' g t cs:=
 (hg.block g h.lt (by first| exact hne| exact hne.symm)).trans h
end Go.Proofs.YtpcleamaieaefaaGreatDoor
namespace Go.Proofs.YtpcleamaieaefaaGreatDoor
open Go.RowKit
theorem Fy:∀n:Fin 256,(bits BinOp.andNot IntKind.i64 (n.1:Int) 63 !=0)=decide (63<n.1)∧(bits BinOp.andNot IntKind.i64 (n.1:Int) 3 !=0)=decide (3<n.1)∧
  bits BinOp.and IntKind.i64 (n.1:Int) 3=((n.1% 4:Nat):Int)∧bits BinOp.and IntKind.i64 ((n.1:Int) / 16) 3=((n.1/ 16% 4:Nat):Int)∧
  (bits BinOp.and IntKind.i64 (n.1:Int) 4 !=0)=decide (n.1/ 4% 2=1)∧(bits BinOp.and IntKind.i64 (n.1:Int) 8 !=0)=decide (n.1/ 8% 2=1):=by decide+kernel
def dI (f:Fi):Array Value:=#[.string f.topic,.int .i64 f.qos,.bool f.noLocal,.bool f.asPub,.int .i64 f.handling]
theorem Cur.four {w:World} {g a gf:Nat} {t:ByteArray} {e:Int} (h:Cur w g t a e) (hne:gf≠g) (x1 x4 x2 x3:Value):Cur ((((w.setCell ⟨gf,1,none⟩ x1).setCell ⟨gf,4,none⟩ x4).setCell ⟨gf,2,none⟩ x2).setCell ⟨gf,3,none⟩ x3) g t a e:=
 ⟨(((h.1.other (fun e=>hne e.symm) _).other (fun e=>hne e.symm) _).other (fun e=>hne e.symm) _).other (fun e=>hne e.symm) _,h.2⟩
theorem lZ (w:World) (g gf:Nat) (x1 x4 x2 x3:Value):Mods (two g gf) w ((((w.setCell ⟨gf,1,none⟩ x1).setCell ⟨gf,4,none⟩ x4).setCell ⟨gf,2,none⟩ x2).setCell ⟨gf,3,none⟩ x3):=
 ((((Mods.refl w).set gf 1 (.inl (.inr rfl)) _).set gf 4 (.inl (.inr rfl)) _).set gf 2 (.inl (.inr rfl)) _).set gf 3 (.inl (.inr rfl)) _
theorem l8 {w:World} {gf:Nat} {tp:ByteArray} (h:Bk w gf 32 (dI ⟨tp,0,false,false,0⟩)) (q hd:Int) (nl ap:Bool):
  Bk ((((w.setCell ⟨gf,1,none⟩ (.int .i64 q)).setCell ⟨gf,4,none⟩ (.int .i64 hd)).setCell ⟨gf,2,none⟩ (.bool nl)).setCell ⟨gf,3,none⟩ (.bool ap)) gf 32 (dI ⟨tp,q,nl,ap,hd⟩):=
 (((h.upd 1 (.int .i64 q) (cs':=dI ⟨tp,q,false,false,0⟩) rfl).upd 4 (.int .i64 hd) (cs':=dI ⟨tp,q,false,false,hd⟩) rfl).upd 2 (.bool nl) (cs':=dI ⟨tp,q,nl,false,hd⟩) rfl).upd 3 (.bool ap) (cs':=dI ⟨tp,q,nl,ap,hd⟩) rfl
theorem wN (v:Int) (hv:v=4∨v=5) (g a:Nat) (t:ByteArray) (e:Int) (gf:Nat) (tp:ByteArray) (w:World) (h:Cur w g t a e) (hf:Bk w gf 32 (dI ⟨tp,0,false,false,0⟩)) (hne:gf≠g):
  Calls Tryz.prog 104 #[.int .i64 v,.pointer (some ⟨g,0,none⟩),.pointer (some ⟨gf,0,none⟩)] w fun e' w'=>
   e'= .returned (.tuple #[])∧Cur w' g t (opR v t a e).2.1 (opR v t a e).2.2∧Bk w' gf 32 (dI (vB tp (opR v t a e).1))∧Mods (two g gf) w w':=by
 have C0:=aa h;have F0:=aa hf;have NE:=aa hne
 have HO:Hid (opR v t a e=(br t a e 1,(aH t a e 1).2.1,if iU v (br t a e 1)=true then fh (aH t a e 1).2.2 7 else(aH t a e 1).2.2)):=aa rfl;have hlt:=iV t a e;clear h hf hne
 go_enter Tryz.func104,Tryz.ntmps104
 go_wp2_with fail
 refine(dR g a t e 1 _ C0.out (by decide)).mono ?_;rintro e' w1 ⟨rfl,hc,hm⟩;have C1:=aa hc;have F1:=aa (F0.out.mods (Mods.of_grown (S:=fun i=>i=g) hm rfl) (fun e=>NE.out e));have M1:Hid (Mods (two g gf) w w1):=aa (Mods.of_grown hm (.inl rfl));clear hc hm;generalize br t a e 1=n at*;obtain⟨R,hR⟩:∃R,aH t a e 1=R:=⟨_,rfl⟩;rw[hR]at HO C1;clear hR;obtain⟨T,a1,e1⟩:=R;simp only at HO C1⊢;obtain⟨o1,o2,o3,o4,o5,o6⟩:=Fy ⟨n,hlt⟩;simp only at o1 o2 o3 o4 o5 o6;rcases hv with rfl| rfl
 ·have hN:Hid (decide (3<n)=iU 4 n):=aa (by unfold iU;rw[au rfl,aL,eG,Bool.or_eq_true];simp only[cH];omega)
  by_cases hb:3<n
  ·have HB:Hid (iU 4 n=true):=aa (by rw[←hN.out,au hb]);rw[au hb]at o2;rw[HB.out,if_pos rfl]at HO;clear hb
   go_wp2_with fail
   refine(cB g a1 t e1 7 _ C1.out).mono ?_;rintro e' w2 ⟨rfl,hc,hm⟩;have C2:Hid (Cur w2 g t a1 (fh e1 7)):=aa hc;have F2:=aa (F1.out.mods (Mods.of_grown (S:=fun i=>i=g) hm rfl) (fun e=>NE.out e));have M2:Hid (Mods (two g gf) w w2):=aa (M1.out.trans (Mods.of_grown hm (.inl rfl)));clear hc hm;obtain⟨⟨c0,c1,c2⟩,f0,f1,f2⟩:=C2.out.cells;have q0:=F2.out.cell 0;have q1:=F2.out.cell 1;have q2:=F2.out.cell 2;have q3:=F2.out.cell 3;have q4:=F2.out.cell 4
   have r0:=F2.out.free 0;have r1:=F2.out.free 1;have r2:=F2.out.free 2;have r3:=F2.out.free 3;have r4:=F2.out.free 4
   simp only[dI,ay,aE,aB]at q0 q1 q2 q3 q4
   go_wp2
   go_end0
   rw[HO.out];refine⟨rfl,?_,?_,?_⟩
   ·exact C2.out.four (fun e=>NE.out e) _ _ _ _
   ·exact l8 F2.out _ _ _ _
   ·exact M2.out.trans (lZ _ _ _ _ _ _ _)
  ·have HB:Hid (iU 4 n=false):=aa (by rw[←hN.out,ah hb]);rw[ah hb]at o2;rw[HB.out,ae (by decide)]at HO;clear hb;obtain⟨⟨c0,c1,c2⟩,f0,f1,f2⟩:=C1.out.cells;have q0:=F1.out.cell 0;have q1:=F1.out.cell 1;have q2:=F1.out.cell 2;have q3:=F1.out.cell 3;have q4:=F1.out.cell 4
   have r0:=F1.out.free 0;have r1:=F1.out.free 1;have r2:=F1.out.free 2;have r3:=F1.out.free 3;have r4:=F1.out.free 4
   simp only[dI,ay,aE,aB]at q0 q1 q2 q3 q4
   go_wp2
   go_end0
   rw[HO.out];refine⟨rfl,?_,?_,?_⟩
   ·exact C1.out.four (fun e=>NE.out e) _ _ _ _
   ·exact l8 F1.out _ _ _ _
   ·exact M1.out.trans (lZ _ _ _ _ _ _ _)
 ·have hN:Hid (decide (63<n)=iU 5 n):=aa (by unfold iU;rw[show decide ((5:Int)=4)=false from rfl,bj,Bool.or_false])
  by_cases hb:63<n
  ·have HB:Hid (iU 5 n=true):=aa (by rw[←hN.out,au hb]);rw[au hb]at o1;rw[HB.out,if_pos rfl]at HO;clear hb
   go_wp2_with fail
   refine(cB g a1 t e1 7 _ C1.out).mono ?_;rintro e' w2 ⟨rfl,hc,hm⟩;have C2:Hid (Cur w2 g t a1 (fh e1 7)):=aa hc;have F2:=aa (F1.out.mods (Mods.of_grown (S:=fun i=>i=g) hm rfl) (fun e=>NE.out e));have M2:Hid (Mods (two g gf) w w2):=aa (M1.out.trans (Mods.of_grown hm (.inl rfl)));clear hc hm;obtain⟨⟨c0,c1,c2⟩,f0,f1,f2⟩:=C2.out.cells;have q0:=F2.out.cell 0;have q1:=F2.out.cell 1;have q2:=F2.out.cell 2;have q3:=F2.out.cell 3;have q4:=F2.out.cell 4
   have r0:=F2.out.free 0;have r1:=F2.out.free 1;have r2:=F2.out.free 2;have r3:=F2.out.free 3;have r4:=F2.out.free 4
   simp only[dI,ay,aE,aB]at q0 q1 q2 q3 q4
   go_wp2
   go_end0
   rw[HO.out];refine⟨rfl,?_,?_,?_⟩
   ·exact C2.out.four (fun e=>NE.out e) _ _ _ _
   ·exact l8 F2.out _ _ _ _
   ·exact M2.out.trans (lZ _ _ _ _ _ _ _)
  ·have HB:Hid (iU 5 n=false):=aa (by rw[←hN.out,ah hb]);rw[ah hb]at o1;rw[HB.out,ae (by decide)]at HO;clear hb;obtain⟨⟨c0,c1,c2⟩,f0,f1,f2⟩:=C1.out.cells;have q0:=F1.out.cell 0;have q1:=F1.out.cell 1;have q2:=F1.out.cell 2;have q3:=F1.out.cell 3;have q4:=F1.out.cell 4
   have r0:=F1.out.free 0;have r1:=F1.out.free 1;have r2:=F1.out.free 2;have r3:=F1.out.free 3;have r4:=F1.out.free 4
   simp only[dI,ay,aE,aB]at q0 q1 q2 q3 q4
   go_wp2
   go_end0
   rw[HO.out];refine⟨rfl,?_,?_,?_⟩
   ·exact C1.out.four (fun e=>NE.out e) _ _ _ _
   ·exact l8 F1.out _ _ _ _
   ·exact M1.out.trans (lZ _ _ _ _ _ _ _)
end Go.Proofs.YtpcleamaieaefaaGreatDoor
namespace Go.Proofs.YtpcleamaieaefaaGreatDoor
open Go.RowKit
attribute [local go_sem ↓] bD bF bH bI bu
attribute [local go_sem] bc aD bh bg bK bJ bd aY be aO ax cI dC dB dt dj di dA dr dp dn bW co bO bZ bX cz cy cw cu ct cC cn bS bP bR
theorem oP:(Tryz.prog.info? 32).map (fun i=>(i.zero,i.size,i.bytes))=some (some (.agg #[.string ⟨#[]⟩,.int .i64 0,.bool false,.bool false,.int .i64 0]),5,40):=by kernel_rfl
theorem Mods.own {S:Nat→Prop} {w x y:World} {r:Option Nat} (h:Mods S w x) (hg:x.grownBy y r) (hr:∀k,r=some k→w.heap.size≤k):Mods S w y:=
 ⟨hg.os.trans h.os,hg.tape.trans h.tape,hg.output.trans h.output,aC h.size hg.size,fun i hi hs=>(hg.block i (ch hi h.size) (fun e=>by have:=hr i e.symm;omega)).trans (h.block i hi hs)⟩
structure LS (w:World) (g gp:Nat) (t:ByteArray) (q:Pk) (hq:Hs) (a:Nat) (e:Int) (x:World):Prop where
 cur:Cur x g t a e
 pk:Bk x gp PkT (pkC q hq)
 mods:Mods (two g gp) w x
 ne:g<w.heap.size∧gp<w.heap.size∧g≠gp
def iE (w x:World) (l:List Fi) (F:Hd):Prop:=x.ownsRow w.heap.size 32 5 (.slice F.a l.length F.c) l.length (fis l)
def lR (w x:World) (l:List Int) (C:Hd):Prop:=x.ownsRow w.heap.size 3 1 (.slice C.a l.length C.c) l.length (iv l)
section
variable {w x y:World} {g gp:Nat} {t:ByteArray} {q:Pk} {hq:Hs} {a a':Nat} {e e':Int}
theorem LS.drewN (s:LS w g gp t q hq a e x) (n:Nat):LS w g gp t q hq a e (x.drewN n):=⟨s.cur,s.pk,s.mods.drewN n,s.ne⟩
theorem LS.below (s:LS w g gp t q hq a e x) (hb:Below x.heap.size x y):LS w g gp t q hq a e y:=⟨s.cur.below hb,s.pk.below hb s.pk.lt,s.mods.trans (Mods.of_below hb),s.ne⟩
theorem LS.alloc (s:LS w g gp t q hq a e x) (o:Obj):LS w g gp t q hq a e (x.alloc o):=s.below ((aq _ _).alloc (ac _) o)
theorem LS.turn (s:LS w g gp t q hq a e x) (hc:Cur y g t a' e') (hm:x.grownBy y (some g)):LS w g gp t q hq a' e' y:=
 ⟨hc,s.pk.mods (S:=fun i=>i=g) (Mods.of_grown hm rfl) (fun e=>s.ne.2.2 e.symm),s.mods.trans (Mods.of_grown hm (.inl rfl)),s.ne⟩
theorem LS.grown (s:LS w g gp t q hq a e x) {r:Option Nat} (hg:x.grownBy y r) (hr:∀k,r=some k→w.heap.size≤k):LS w g gp t q hq a e y:=
 ⟨⟨(hg.block g s.cur.lt (fun h=>by have:=hr g h.symm;have:=s.ne;omega)).trans s.cur.1,s.cur.2⟩,(hg.block gp s.pk.lt (fun h=>by have:=hr gp h.symm;have:=s.ne;omega)).trans s.pk,s.mods.own hg hr,s.ne⟩
theorem LS.put (s:LS w g gp t q hq a e x) (i:Nat) (u:Value) {q':Pk} {hq':Hs} (hu:(pkC q hq).setIfInBounds i u=pkC q' hq'):LS w g gp t q' hq' a e (x.setCell ⟨gp,i,none⟩ u):=
 ⟨⟨s.cur.1.other (by have:=s.ne.2.2;simpa using this) _,s.cur.2⟩,s.pk.upd i u hu,s.mods.set gp i (.inl (.inr rfl)) _,s.ne⟩
theorem iE.stay {l:List Fi} {F:Hd} (h:iE w x l F) (hm:x.grownBy y (some g)) (hg:g<w.heap.size):iE w y l F:=jg h (Mods.of_grown (S:=fun i=>i=g) hm rfl) (fun k hk e=>by have:=(cX h k hk).1;omega)
theorem lR.stay {l:List Int} {F:Hd} (h:lR w x l F) (hm:x.grownBy y (some g)) (hg:g<w.heap.size):lR w y l F:=jg h (Mods.of_grown (S:=fun i=>i=g) hm rfl) (fun k hk e=>by have:=(cX h k hk).1;omega)
end
theorem lR.snoc {w x:World} {l:List Int} {A:Option Addr} {c:Nat} {y:Int} (h:x.ownsRow w.heap.size 3 1 (.slice A (l.length+1) c) (l.length+1) (iv l++[.int .i64 y])) {g i:Nat} (u:Value) (hg:g<w.heap.size):lR w (x.setCell ⟨g,i,none⟩ u) (l++[y]) ⟨A,c⟩:=by
 have h1:lR w x (l++[y]) ⟨A,c⟩:=by
  unfold lR;rw[List.length_append]
  simpa [iv]using h
 exact h1.stay (cP x g i u) hg
theorem Aq (q:Pk) (hq:Hs) (l:List Int) (y:Int) (A:Option Addr) (c:Nat) (C:Hd):(pkC {q with codes:=l} {hq with codes:=C}).setIfInBounds 22 (.slice A (l.length+1) c)=pkC {q with codes:=l++[y]} {hq with codes:=⟨A,c⟩}:=by
 rw[show l.length+1=(l++[y]).length by simp];rfl
theorem LS.opt {w x y:World} {g gp gf:Nat} {t:ByteArray} {q:Pk} {hq:Hs} {a a':Nat} {e e':Int} (s:LS w g gp t q hq a e x) (hc:Cur y g t a' e') (hm:Mods (two g gf) x y) (hgf:w.heap.size≤gf):LS w g gp t q hq a' e' y:=by
 have h1:=s.ne;exact⟨hc,s.pk.mods hm (fun h=>by rcases h with h| h<;>omega),⟨hm.os.trans s.mods.os,hm.tape.trans s.mods.tape,hm.output.trans s.mods.output,aC s.mods.size hm.size,fun i hi hs=>
  (hm.block i (ch hi s.mods.size) (fun h=>by rcases h with h| h;exact hs (.inl h);omega)).trans (s.mods.block i hi hs)⟩,h1⟩
theorem iE.opt {w x y:World} {g gf:Nat} {l:List Fi} {F:Hd} (h:iE w x l F) (hm:Mods (two g gf) x y) (hg:g<w.heap.size) (hlt:∀q,(Value.slice F.a l.length F.c).ownBlock=some q→q<gf):iE w y l F:=
 jg h hm (fun k hk e=>by have h1:=(cX h k hk).1;have h2:=hlt k hk;rcases e with e| e<;>omega)
theorem CJ (l:List Fi) (f:Fi):fis (l++[f])=fis l++fiC f:=by simp[fis]
theorem iE.snoc {w x:World} {l:List Fi} {A:Option Addr} {c:Nat} {f:Fi} (h:x.ownsRow w.heap.size 32 5 (.slice A (l.length+1) c) (l.length+1) (fis l++fiC f)) {g i:Nat} (u:Value) (hg:g<w.heap.size):iE w (x.setCell ⟨g,i,none⟩ u) (l++[f]) ⟨A,c⟩:=by
 have h1:iE w x (l++[f]) ⟨A,c⟩:=by
  unfold iE;rw[List.length_append,CJ];exact h
 exact h1.stay (cP x g i u) hg
theorem oT (q:Pk) (hq:Hs) (l:List Fi) (f:Fi) (A:Option Addr) (c:Nat) (F:Hd):(pkC {q with filters:=l} {hq with filters:=F}).setIfInBounds 23 (.slice A (l.length+1) c)=pkC {q with filters:=l++[f]} {hq with filters:=⟨A,c⟩}:=by
 rw[show l.length+1=(l++[f]).length by simp];rfl
theorem Bv (W:World) (f:Fi):Rd (W.alloc (.cells #[.string f.topic,.int .i64 f.qos,.bool f.noLocal,.bool f.asPub,.int .i64 f.handling] 32)) (W.heap.size+1) 5 (some ⟨W.heap.size,0,none⟩) 1 (fiC f):=by
 have h:=Rd.fresh W (dI f) 32;refine⟨rfl,?_⟩;rcases h.2 with h| h
 ·exact .inl h
 ·exact .inr h
theorem yG (f:Fi):∀u∈fiC f,u.oneCell'=true:=by
 intro u hu;simp[fiC]at hu;rcases hu with rfl| rfl| rfl| rfl| rfl<;>rfl
theorem qn (v k:Int) (t:ByteArray) (n a:Nat) (e:Int) (fi:List Fi) (cd:List Int):lsR v k t (n+1) a e fi cd=
  if e≠0∨t.size≤a then(fi,cd,a,e)
  else if jm k=true then lsR v k t n (fiR v k t a).2.1 (fiR v k t a).2.2 (fi++[(fiR v k t a).1]) cd
  else lsR v k t n (a+1) 0 fi (cd++[((br t a 0 1:Nat):Int)]):=rfl
theorem Es {v k:Int} {t:ByteArray} {n a:Nat} {e:Int} {fi:List Fi} {cd:List Int} (he:e≠0):lsR v k t n a e fi cd=(fi,cd,a,e):=by
 cases n with
 | zero=>rfl
 | succ n=>rw[qn,if_pos (.inl he)]
theorem wA {r:ByteArray} (h:(bL r).2.2≠0):(bL r).2.1=0:=by
 unfold bL dJ at h⊢
 split
 ·rfl
 ·rename_i hc;rw[ae hc]at h
  split
  ·rfl
  ·rename_i h1;rw[ae h1]at h
   split
   ·rfl
   ·rename_i h2;rw[ae h2]at h;exact absurd rfl h
theorem DV {t:ByteArray} {a:Nat} (ha:a≤t.size):(aH t a (bL (t.extract a t.size)).2.2 ((bL (t.extract a t.size)).2.1:Nat)).2=((rtC t a 0).2.1,(rtC t a 0).2.2):=by
 have hR:rtC t a 0=((bL (t.extract a t.size)).1,a+(bL (t.extract a t.size)).2.1,(bL (t.extract a t.size)).2.2):=ae (fun x=>x rfl);have hle:=(uq (t.extract a t.size)).1;rw[rJ]at hle;rw[hR]
 by_cases hx:(bL (t.extract a t.size)).2.2=0
 ·rw[hx,dZ (by omega)]
 ·rw[fY hx,wA hx];rfl
theorem mB (v:Int) (hv:v=4∨v=5) (k:Int) (hk:ir v k=true) (g gp a0:Nat) (t:ByteArray) (e0:Int) (p:Pk) (h:Hs) (w:World) (hkp:p.kind=k) (hc:Cur w g t a0 e0) (hp:Bk w gp PkT (pkC {p with filters:=[],codes:=[]} {h with filters:=hd0,codes:=hd0})) (hne:g≠gp) (ht:t.size≤1000000000000):
  Calls Tryz.prog 57 #[.int .i64 v,.pointer (some ⟨g,0,none⟩),.pointer (some ⟨gp,0,none⟩)] w fun e' w'=>
   e'= .returned (.tuple #[])∧∃F C fi cd a e,lsR v k t (t.size+1) a0 e0 [] []=(fi,cd,a,e)∧LS w g gp t {p with filters:=fi,codes:=cd} {h with filters:=F,codes:=C} a e w'∧iE w w' fi F∧lR w w' cd C:=by
 have L0:Hid (LS w g gp t {p with filters:=[],codes:=[]} {h with filters:=hd0,codes:=hd0} a0 e0 w):=aa ⟨hc,hp,Mods.refl _,hc.lt,hp.lt,hne⟩;have HK:=aa hk;have HV:=aa hv;have HKP:=aa hkp;have HT:=aa ht
 obtain⟨RES,hRES⟩:∃R,lsR v k t (t.size+1) a0 e0 [] []=R:=⟨_,rfl⟩;rw[hRES];have HRES:=aa hRES;clear hk hv hkp hc hp hne ht hRES
 go_enter Tryz.func57,Tryz.ntmps57
 go_wp2
 go_step3
 go_wp2
 go_step3
 go_wp2
 go_loopg [] (t.size+1) (fun n wr=>∃(a:Nat) (e:Int) (fi:List Fi) (cd:List Int) (F C:Hd),lsR v k t n a e fi cd=RES∧(e=0→t.size- a<n)∧(e=0→fi.length≤a∧cd.length≤a)∧((jm k=true→cd=[]∧C=hd0)∧(jm k=false→fi=[]∧F=hd0))∧
  LS w g gp t {p with filters:=fi,codes:=cd} {h with filters:=F,codes:=C} a e wr∧iE w wr fi F∧lR w wr cd C)
 case atStart=>exact⟨a0,e0,[],[],hd0,hd0,HRES.out,fun _=>by omega,fun _=>⟨ag _,ag _⟩,⟨fun _=>⟨rfl,rfl⟩,fun _=>⟨rfl,rfl⟩⟩,L0.out,dD _ _ _ _,dD _ _ _ _⟩
 case round=>
  obtain⟨a,e,fi,cd,F,C,hl,hfu,hlen,hnil,hI,hF,hC⟩:=hrel;have HNIL:=aa hnil;clear hnil
  have HL:=aa hl;have HFU:=aa hfu;have HLEN:=aa hlen;have I:=aa hI;have OF:=aa hF;have OC:=aa hC
  clear hl hfu hlen hI hF hC
  go_wp2_with fail
  refine(dG g a t e _ I.out.cur).mono ?_;rintro e' w1 ⟨rfl,hw1⟩;subst hw1
  by_cases he:e=0
  rotate_left
  ·have e1:(e==0)=false:=ar.2 he;have HX:Hid (RES=(fi,cd,a,e)):=aa (by rw[←HL.out,Es he]);clear he
   go_wp2
   rw[Exit.noGoto_normal]
   go_end0
   exact⟨rfl,F,C,fi,cd,a,e,HX.out,I.out,OF.out,OC.out⟩
  subst he;obtain⟨n,rfl⟩:∃n,gk=n+1:=⟨gk- 1,by have:=HFU.out (by first| rfl| trivial);omega⟩;rw[qn]at HL
  go_wp2_with fail
  refine(eI g a t 0 _ I.out.cur).mono ?_;rintro e' w1 ⟨rfl,hb⟩;have I1:=aa (I.out.below hb);have OF1:Hid (iE w w1 fi F):=aa (dV OF.out hb);have OC1:Hid (lR w w1 cd C):=aa (dV OC.out hb)
  clear hb I OF OC
  by_cases hz:t.size≤a
  ·have e2:(((t.size- a:Nat):Int)==0)=true:=aK.2 (by omega);have HX:Hid (RES=(fi,cd,a,0)):=aa (by rw[←HL.out,if_pos (.inr hz)]);clear hz
   go_wp2
   rw[Exit.noGoto_normal]
   go_end0
   exact⟨rfl,F,C,fi,cd,a,0,HX.out,I1.out,OF1.out,OC1.out⟩
  have e2:(((t.size- a:Nat):Int)==0)=false:=ar.2 (by omega);have HZ:Hid (a<t.size):=aa (by omega);clear hz;have kk:=(I1.out.pk.cell 0).trans (cI _ _);simp only[HKP.out]at kk
  go_wp2_with fail
  refine(nK k _).mono ?_;rintro e' w2 ⟨rfl,hw2⟩;subst hw2;cases hask:jm k
  ·have HA:=aa hask;clear hask;have HL2:=HL.out;rw[ae (fun x=>by have:=HZ.out;rcases x with x| x<;>omega),ae (by rw[HA.out];decide)]at HL2
   replace HL2:=aa HL2
   clear HL;obtain⟨y,hy⟩:∃y,(ls t).drop a=y :: (ls t).drop (a+1):=⟨_,bQ (by rw[aN];exact HZ.out)⟩;have HY:=aa (tf hy);have HNUM:Hid ((aH t a 0 1).2.1=a+1∧(aH t a 0 1).2.2=0):=aa (by
    have:aH t a 0 1=(t.extract a (a+1),a+1,0):=dZ (k:=1) HZ.out;rw[this];exact⟨rfl,rfl⟩)
   have hyw:IntKind.i64.wrap (y.toNat:Int)=(y.toNat:Int):=by have:=y.toNat_lt;rw[aQ];omega
   clear hy kk;have HLC:Hid (cd.length≤1000000000000):=aa (by have:=(HLEN.out (by first| rfl| trivial)).2;have:=HZ.out;have:=HT.out;omega);have HS:w1.cell? ⟨gp,22,none⟩=some (.slice C.a cd.length C.c):=(I1.out.pk.cell 22).trans (bS _ _)
   go_wp2_with fail
   refine je (fun w'=>w'.cell? ⟨gp,22,none⟩=some (.slice C.a cd.length C.c)) [10] (by kernel_rfl) ?_
   replace HS:w1.drew.cell? ⟨gp,22,none⟩=some (.slice C.a cd.length C.c):=HS
   refine aJ (i:=0) (v:=?vc_0) [10] rfl (by kernel_rfl) (by kernel_rfl) (by kernel_rfl) (by kernel_rfl) (by kernel_rfl) (by kernel_rfl) (fun _ _ _ h=>h) (Or.inl ⟨by rfl,?hc_0⟩) HS ?rc_0
   case hc_0=>intro w' hSw;(try dsimp only at hSw);go_simp;try with_reducible rfl
   (try simp only[Act.put]);(try simp only[af]);(try simp only[am]);(try simp only[ak])
   refine aJ (i:=1) (v:=?vc_1) [10] rfl (by kernel_rfl) (by kernel_rfl) (by kernel_rfl) (by kernel_rfl) (by kernel_rfl) (by kernel_rfl) (fun _ _ _ h=>h) (Or.inl ⟨by rfl,?hc_1⟩) HS ?rc_1
   case hc_1=>intro w' hSw;(try dsimp only at hSw);go_simp;try with_reducible rfl
   (try simp only[Act.put]);(try simp only[af]);(try simp only[am]);(try simp only[ak])
   refine aJ (i:=2) (v:=?vc_2) [10] rfl (by kernel_rfl) (by kernel_rfl) (by kernel_rfl) (by kernel_rfl) (by kernel_rfl) (by kernel_rfl) (fun _ _ _ h=>h) (Or.inl ⟨by rfl,?hc_2⟩) HS ?rc_2
   case hc_2=>intro w' hSw;(try dsimp only at hSw);go_simp;try with_reducible rfl
   (try simp only[Act.put]);(try simp only[af]);(try simp only[am]);(try simp only[ak])
   refine aJ (i:=3) (v:=?vc_3) [10] rfl (by kernel_rfl) (by kernel_rfl) (by kernel_rfl) (by kernel_rfl) (by kernel_rfl) (by kernel_rfl) (fun _ _ _ h=>h) (Or.inl ⟨by rfl,?hc_3⟩) HS ?rc_3
   case hc_3=>intro w' hSw;(try dsimp only at hSw);go_simp;try with_reducible rfl
   (try simp only[Act.put]);(try simp only[af]);(try simp only[am]);(try simp only[ak])
   refine aJ (i:=4) (v:=?vc_4) [10] rfl (by kernel_rfl) (by kernel_rfl) (by kernel_rfl) (by kernel_rfl) (by kernel_rfl) (by kernel_rfl) (fun _ _ _ h=>h) (Or.inl ⟨by rfl,?hc_4⟩) HS ?rc_4
   case hc_4=>intro w' hSw;(try dsimp only at hSw);go_simp;try with_reducible rfl
   (try simp only[Act.put]);(try simp only[af]);(try simp only[am]);(try simp only[ak])
   refine aJ (i:=5) (v:=?vc_5) [10] rfl (by kernel_rfl) (by kernel_rfl) (by kernel_rfl) (by kernel_rfl) (by kernel_rfl) (by kernel_rfl) (fun _ _ _ h=>h) (Or.inl ⟨by rfl,?hc_5⟩) HS ?rc_5
   case hc_5=>intro w' hSw;(try dsimp only at hSw);go_simp;try with_reducible rfl
   (try simp only[Act.put]);(try simp only[af]);(try simp only[am]);(try simp only[ak])
   refine cq (rs:=[6]) (by kernel_rfl) (by simp) (ep.cons rfl (fun K hK=>?_) ep.nil)
   go_simp
   go_at_call 51
   refine(dR g a t 0 1 _ (I1.out.drewN 1).cur (by decide)).mono ?_;rintro e' y1 ⟨rfl,hc,hm⟩;rw[HNUM.out.1,HNUM.out.2]at hc;have J1:=aa ((I1.out.drewN 1).turn hc hm);have P1:Hid (lR w y1 cd C):=aa ((show lR w (w1.drewN 1) cd C from OC1.out).stay hm I1.out.ne.1);have T1:Hid (iE w y1 fi F):=aa ((show iE w (w1.drewN 1) fi F from OF1.out).stay hm I1.out.ne.1);clear hc hm HS;have HS:=(J1.out.pk.cell 22).trans (bS _ _);simp only at HS;rw[HY.out]
   go_simp
   refine hK.out _ _ (fun _=>HS) ?_;clear hK K
   (try simp only[Act.put]);(try simp only[af]);(try simp only[am]);(try simp only[ak])
   refine aJ (i:=7) (v:=?vc_7) [10] rfl (by kernel_rfl) (by kernel_rfl) (by kernel_rfl) (by kernel_rfl) (by kernel_rfl) (by kernel_rfl) (fun _ _ _ h=>h) (Or.inl ⟨by rfl,?hc_7⟩) HS ?rc_7
   case hc_7=>intro w' hSw;(try dsimp only at hSw);go_simp;try with_reducible rfl
   (try simp only[Act.put]);(try simp only[af]);(try simp only[am]);(try simp only[ak])
   refine cq (rs:=[8]) (by kernel_rfl) (by simp) (ep.cons rfl (fun K hK=>?_) ep.nil)
   go_simp
   have J2:=aa (J1.out.alloc (.cells #[.int .i64 (y.toNat:Int)] 3));have P2:=aa (jh P1.out (.cells #[.int .i64 (y.toNat:Int)] 3));have T2:=aa (jh T1.out (.cells #[.int .i64 (y.toNat:Int)] 3));clear HS;have HS:=(J2.out.pk.cell 22).trans (bS _ _);simp only at HS;refine hK.out _ _ (fun _=>HS) ?_;clear hK K
   (try simp only[Act.put]);(try simp only[af]);(try simp only[am]);(try simp only[ak])
   refine cq (rs:=[9]) (by kernel_rfl) (by simp) (ep.cons rfl (fun K hK=>?_) ep.nil);refine mS rfl (.tmp 28) (.tmp 32) 26 rfl w.heap.size 3 _ 1 8 Tryz.underlying26 Cw rfl (by decide) (.slice C.a cd.length C.c) _ _ rfl P2.out _ _ 1 1 [.int .i64 (y.toNat:Int)] rfl (Rd.lit _ _ _ rfl (ed _) rfl) (by intro u hu;simp at hu;subst hu;rfl) (by have:=HLC.out;unfold maxLen;omega) (by have:=HLC.out;omega) J2.out.mods.size ?_;intro v' y3 hown hg hat;obtain⟨A',c',rfl,hcap,hrd⟩:=jK hown;have J3:=aa (J2.out.grown hg (fun q hq=>(cX P2.out q hq).1));clear hcap hrd HS;have HS:=(J3.out.pk.cell 22).trans (bS _ _);simp only at HS;refine hK.out _ _ (fun _=>HS) ?_;clear hK K
   (try simp only[Act.put]);(try simp only[af]);(try simp only[am]);(try simp only[ak])
   refine cq (rs:=[10]) (by kernel_rfl) (by simp) (ep.cons rfl (fun K hK=>?_) ep.nil)
   go_simp
   refine hK.out _ _ (fun hn=>absurd (hn 10 (by simp)) (by decide)) (mc (d:=10) (by simp) _ _ _ _ (by kernel_rfl) ?_);have c22:=HS;have f22:=J3.out.pk.free 22;clear hK K HS
   (try simp only[Act.put]);(try simp only[af]);(try simp only[am]);(try simp only[ak])
   refine wpAny_take (i:=11) (v:=?vc_11) rfl (by kernel_rfl) (by kernel_rfl) (by kernel_rfl) (fun _ _ _ h=>h) (Or.inl ⟨by rfl,?hc_11⟩) ?rc_11
   case hc_11=>intro w';go_simp;try with_reducible rfl
   (try simp only[Act.put]);(try simp only[af]);(try simp only[am]);(try simp only[ak])
   refine wpAny_ready (rs:=[12]) (by kernel_rfl) (by simp) (tK rfl (fun K hK=>?_) AllReady.nil)
   go_simp
   refine hK.out _ _ ?_;clear hK K
   (try simp only[Act.put]);(try simp only[af]);(try simp only[am]);(try simp only[ak])
   refine wpAny_done (by kernel_rfl) ?_ _
   go_wp2
   go_roundg n
   case measure=>omega
   case rel=>
    obtain⟨hn1,hn2⟩:=HNIL.out.2 HA.out;refine⟨a+1,0,fi,cd++[(y.toNat:Int)],F,⟨A',c'⟩,?_,fun _=>by have:=HFU.out (by first| rfl| trivial);have:=HZ.out;omega,fun _=>?_,⟨fun h=>(by rw[HA.out]at h;cases h),fun _=>⟨hn1,hn2⟩⟩,J3.out.put 22 _ (Aq {p with filters:=fi} {h with filters:=F} cd y.toNat A' c' C),?_,lR.snoc hown _ J3.out.ne.2.1⟩
    ·have:=HL2.out;rw[HY.out]at this;exact this
    ·have h1:=HLEN.out (by first| rfl| trivial);rw[List.length_append];exact⟨by omega,by simp;omega⟩
    ·rw[hn1,hn2];exact dD _ _ _ _
  ·have HA:=aa hask;clear hask;have HL2:=HL.out;rw[ae (fun x=>by have:=HZ.out;rcases x with x| x<;>omega),if_pos HA.out]at HL2
   replace HL2:=aa HL2
   have HLF:Hid (fi.length≤1000000000000):=aa (by have:=(HLEN.out (by first| rfl| trivial)).1;have:=HZ.out;have:=HT.out;omega);have hkk:k=8∨k=10:=aR (show decide (k=8∨k=10)=true from HA.out);have HKK:=aa hkk;have HFB:=aa (fun h0=>vA (v:=v) (t:=t) hkk (pf HZ.out) h0);clear HL kk hkk
   go_wp2_with fail
   refine(jG g a t 0 _ I1.out.cur).mono ?_;rintro e' w2 ⟨rfl,hb⟩;have I2:=aa (I1.out.below hb);have OF2:Hid (iE w w2 fi F):=aa (dV OF1.out hb)
   clear hb I1 OF1 OC1
   go_wp2_with fail
   refine(rO (t.extract a t.size) _ (by rw[rJ];have:=HT.out;omega)).mono ?_;rintro e' w3 ⟨rfl,hb⟩;have I3:=aa (I2.out.below hb);have OF3:Hid (iE w w3 fi F):=aa (dV OF2.out hb)
   clear hb I2 OF2;have HRT:=aa (DV (t:=t) (a:=a) (pf HZ.out));have HRC:Hid (rtC t a 0=((bL (t.extract a t.size)).1,a+(bL (t.extract a t.size)).2.1,(bL (t.extract a t.size)).2.2)):=aa (ae (fun x=>x rfl));obtain⟨U,hU⟩:∃U,bL (t.extract a t.size)=U:=⟨_,rfl⟩;rw[hU]at HRT HRC⊢;clear hU;obtain⟨T,m,x⟩:=U;simp only at HRT HRC⊢;rw[HRC.out]at HRT
   go_wp2_with fail
   refine(cB g a t 0 x _ I3.out.cur).mono ?_;rintro e' w4 ⟨rfl,hc,hm⟩;rw[if_pos rfl]at hc;have I4:=aa (I3.out.turn hc hm);have OF4:Hid (iE w w4 fi F):=aa (OF3.out.stay hm I3.out.ne.1)
   clear hc hm I3 OF3
   go_wp2_with fail
   refine(eo g a t x (m:Int) _ I4.out.cur).mono ?_;rintro e' w5 ⟨rfl,hc,hm⟩;rw[HRT.out]at hc;have I5:=aa (I4.out.turn hc hm);have OF5:Hid (iE w w5 fi F):=aa (OF4.out.stay hm I4.out.ne.1)
   clear hc hm I4 OF4;have I6:=aa (I5.out.alloc (.cells (dI ⟨T,0,false,false,0⟩) 32));have OF6:Hid (iE w (w5.alloc (.cells (dI ⟨T,0,false,false,0⟩) 32)) fi F):=aa (jh OF5.out _);have K6:=aa (Bk.fresh w5 32 (dI ⟨T,0,false,false,0⟩));have HGF:Hid (w.heap.size≤w5.heap.size):=aa I5.out.mods.size;have kk:(w5.alloc (.cells #[.string T,.int .i64 0,.bool false,.bool false,.int .i64 0] 32)).cell? ⟨gp,0,none⟩=some (.int .i64 k):=(I6.out.pk.cell 0).trans ((cI _ _).trans (by rw[←HKP.out]));have OFL:Hid (∀q,(Value.slice F.a fi.length F.c).ownBlock=some q→q<w5.heap.size):=aa fun q hq=>(cX OF5.out q hq).2
   by_cases h8:k=8
   ·have e8:(k==8)=true:=aK.2 h8;have HFR:Hid (fiR v k t a=(vB T (opR v t (a+m) x).1,(opR v t (a+m) x).2.1,(opR v t (a+m) x).2.2)):=aa (by unfold fiR;rw[if_pos h8,HRC.out]);clear h8
    go_wp2_with fail
    refine(wN v HV.out g (a+m) t x w5.heap.size T _ I6.out.cur K6.out (by have:=I5.out.ne;have:=HGF.out;omega)).mono ?_;rintro e' w7 ⟨rfl,hc,hk7,hm⟩;have I7:=aa (I6.out.opt hc hm HGF.out);have OF7:Hid (iE w w7 fi F):=aa (OF6.out.opt hm I5.out.ne.1 OFL.out);have K7:=aa hk7;clear hc hm hk7 I6 OF6 K6 kk;rw[HFR.out]at HL2 HFB;obtain⟨f,hf⟩:∃f,vB T (opR v t (a+m) x).1=f:=⟨_,rfl⟩;rw[hf]at K7 HL2 HFB;generalize (opR v t (a+m) x).2.1=a7 at*;generalize (opR v t (a+m) x).2.2=e7 at*;clear hf HFR;simp only at HL2 HFB;have q0:=K7.out.cell 0;have q1:=K7.out.cell 1;have q2:=K7.out.cell 2;have q3:=K7.out.cell 3;have q4:=K7.out.cell 4
    simp only[dI,ay,aE,aB]at q0 q1 q2 q3 q4;have HS:w7.cell? ⟨gp,23,none⟩=some (.slice F.a fi.length F.c)∧w7.cell? ⟨w5.heap.size,0,none⟩=some (.string f.topic)∧w7.cell? ⟨w5.heap.size,1,none⟩=some (.int .i64 f.qos)∧w7.cell? ⟨w5.heap.size,2,none⟩=some (.bool f.noLocal)∧w7.cell? ⟨w5.heap.size,3,none⟩=some (.bool f.asPub)∧w7.cell? ⟨w5.heap.size,4,none⟩=some (.int .i64 f.handling):=⟨(I7.out.pk.cell 23).trans (bP _ _),q0,q1,q2,q3,q4⟩;clear q0 q1 q2 q3 q4
    go_wp2_with fail
    refine je (fun w'=>w'.cell? ⟨gp,23,none⟩=some (.slice F.a fi.length F.c)∧w'.cell? ⟨w5.heap.size,0,none⟩=some (.string f.topic)∧w'.cell? ⟨w5.heap.size,1,none⟩=some (.int .i64 f.qos)∧w'.cell? ⟨w5.heap.size,2,none⟩=some (.bool f.noLocal)∧w'.cell? ⟨w5.heap.size,3,none⟩=some (.bool f.asPub)∧w'.cell? ⟨w5.heap.size,4,none⟩=some (.int .i64 f.handling)) [8] (by kernel_rfl) ?_
    replace HS:w7.drew.cell? ⟨gp,23,none⟩=some (.slice F.a fi.length F.c)∧w7.drew.cell? ⟨w5.heap.size,0,none⟩=some (.string f.topic)∧w7.drew.cell? ⟨w5.heap.size,1,none⟩=some (.int .i64 f.qos)∧w7.drew.cell? ⟨w5.heap.size,2,none⟩=some (.bool f.noLocal)∧w7.drew.cell? ⟨w5.heap.size,3,none⟩=some (.bool f.asPub)∧w7.drew.cell? ⟨w5.heap.size,4,none⟩=some (.int .i64 f.handling):=HS
    refine aJ (i:=0) (v:=?vf_0) [8] rfl (by kernel_rfl) (by kernel_rfl) (by kernel_rfl) (by kernel_rfl) (by kernel_rfl) (by kernel_rfl) (fun _ _ _ h=>h) (Or.inl ⟨by rfl,?hf_0⟩) HS ?rf_0
    case hf_0=>intro w' hSw;(try dsimp only at hSw);go_simp;try with_reducible rfl
    (try simp only[Act.put]);(try simp only[af]);(try simp only[am]);(try simp only[ak])
    refine aJ (i:=1) (v:=?vf_1) [8] rfl (by kernel_rfl) (by kernel_rfl) (by kernel_rfl) (by kernel_rfl) (by kernel_rfl) (by kernel_rfl) (fun _ _ _ h=>h) (Or.inl ⟨by rfl,?hf_1⟩) HS ?rf_1
    case hf_1=>intro w' hSw;(try dsimp only at hSw);go_simp;try with_reducible rfl
    (try simp only[Act.put]);(try simp only[af]);(try simp only[am]);(try simp only[ak])
    refine aJ (i:=2) (v:=?vf_2) [8] rfl (by kernel_rfl) (by kernel_rfl) (by kernel_rfl) (by kernel_rfl) (by kernel_rfl) (by kernel_rfl) (fun _ _ _ h=>h) (Or.inl ⟨by rfl,?hf_2⟩) HS ?rf_2
    case hf_2=>intro w' hSw;(try dsimp only at hSw);go_simp;try with_reducible rfl
    (try simp only[Act.put]);(try simp only[af]);(try simp only[am]);(try simp only[ak])
    refine aJ (i:=3) (v:=?vf_3) [8] rfl (by kernel_rfl) (by kernel_rfl) (by kernel_rfl) (by kernel_rfl) (by kernel_rfl) (by kernel_rfl) (fun _ _ _ h=>h) (Or.inl ⟨by rfl,?hf_3⟩) HS ?rf_3
    case hf_3=>intro w' hSw;(try dsimp only at hSw);go_simp;try with_reducible rfl
    (try simp only[Act.put]);(try simp only[af]);(try simp only[am]);(try simp only[ak])
    refine aJ (i:=4) (v:=?vf_4) [8] rfl (by kernel_rfl) (by kernel_rfl) (by kernel_rfl) (by kernel_rfl) (by kernel_rfl) (by kernel_rfl) (fun _ _ _ h=>h) (Or.inl ⟨by rfl,?hf_4⟩) HS ?rf_4
    case hf_4=>intro w' hSw;(try dsimp only at hSw);go_simp;try with_reducible rfl
    (try simp only[Act.put]);(try simp only[af]);(try simp only[am]);(try simp only[ak])
    refine aJ (i:=5) (v:=?vf_5) [8] rfl (by kernel_rfl) (by kernel_rfl) (by kernel_rfl) (by kernel_rfl) (by kernel_rfl) (by kernel_rfl) (fun _ _ _ h=>h) (Or.inl ⟨by rfl,?hf_5⟩) HS ?rf_5
    case hf_5=>intro w' hSw;(try dsimp only at hSw);go_simp;try with_reducible rfl
    (try simp only[Act.put]);(try simp only[af]);(try simp only[am]);(try simp only[ak])
    have J1:=aa (I7.out.drewN 1);have P1:Hid (iE w w7.drew fi F):=aa OF7.out;have K8:Hid (Bk w7.drew w5.heap.size 32 (dI f)):=aa K7.out;refine cq (rs:=[6]) (by kernel_rfl) (by simp) (ep.cons rfl (fun K hK=>?_) ep.nil)
    go_simp
    have J2:=aa (J1.out.alloc (.cells #[.string f.topic,.int .i64 f.qos,.bool f.noLocal,.bool f.asPub,.int .i64 f.handling] 32));have P2:=aa (jh P1.out (.cells #[.string f.topic,.int .i64 f.qos,.bool f.noLocal,.bool f.asPub,.int .i64 f.handling] 32));have K9:=aa (K8.out.alloc (.cells #[.string f.topic,.int .i64 f.qos,.bool f.noLocal,.bool f.asPub,.int .i64 f.handling] 32));clear HS;have HS:=And.intro ((J2.out.pk.cell 23).trans (bP _ _)) (And.intro (K9.out.cell 0) (And.intro (K9.out.cell 1) (And.intro (K9.out.cell 2) (And.intro (K9.out.cell 3) (K9.out.cell 4)))));simp only[dI,ay,aE,aB]at HS;refine hK.out _ _ (fun _=>HS) ?_;clear hK K
    (try simp only[Act.put]);(try simp only[af]);(try simp only[am]);(try simp only[ak])
    refine cq (rs:=[7]) (by kernel_rfl) (by simp) (ep.cons rfl (fun K hK=>?_) ep.nil);refine mS rfl (.tmp 63) (.tmp 65) 27 rfl w.heap.size 32 _ 5 40 Tryz.underlying27 oP rfl (by decide) (.slice F.a fi.length F.c) _ _ rfl P2.out _ _ 1 1 (fiC f) rfl (Bv _ f) (yG f) (by have:=HLF.out;unfold maxLen;omega) (by have:=HLF.out;omega) J2.out.mods.size ?_;intro v' y3 hown hg hat;obtain⟨A',c',rfl,hcap,hrd⟩:=jK hown;have J3:=aa (J2.out.grown hg (fun q hq=>(cX P2.out q hq).1));have K10:=aa (vV hg K9.out (fun e=>by have h2:=OFL.out _ e;omega));clear hcap hrd HS;have HS:=And.intro ((J3.out.pk.cell 23).trans (bP _ _)) (And.intro (K10.out.cell 0) (And.intro (K10.out.cell 1) (And.intro (K10.out.cell 2) (And.intro (K10.out.cell 3) (K10.out.cell 4)))));simp only[dI,ay,aE,aB]at HS;refine hK.out _ _ (fun _=>HS) ?_;clear hK K
    (try simp only[Act.put]);(try simp only[af]);(try simp only[am]);(try simp only[ak])
    refine cq (rs:=[8]) (by kernel_rfl) (by simp) (ep.cons rfl (fun K hK=>?_) ep.nil)
    go_simp
    refine hK.out _ _ (fun hn=>absurd (hn 8 (by simp)) (by decide)) (mc (d:=8) (by simp) _ _ _ _ (by kernel_rfl) ?_);have c23:=HS.1;have f23:=J3.out.pk.free 23;clear hK K HS
    (try simp only[Act.put]);(try simp only[af]);(try simp only[am]);(try simp only[ak])
    refine wpAny_take (i:=9) (v:=?vf_9) rfl (by kernel_rfl) (by kernel_rfl) (by kernel_rfl) (fun _ _ _ h=>h) (Or.inl ⟨by rfl,?hf_9⟩) ?rf_9
    case hf_9=>intro w';go_simp;try with_reducible rfl
    (try simp only[Act.put]);(try simp only[af]);(try simp only[am]);(try simp only[ak])
    refine wpAny_ready (rs:=[10]) (by kernel_rfl) (by simp) (tK rfl (fun K hK=>?_) AllReady.nil)
    go_simp
    refine hK.out _ _ ?_;clear hK K
    (try simp only[Act.put]);(try simp only[af]);(try simp only[am]);(try simp only[ak])
    refine wpAny_done (by kernel_rfl) ?_ _
    go_wp2
    go_roundg n
    case measure=>omega
    case rel=>
     obtain⟨hn1,hn2⟩:=HNIL.out.1 HA.out;refine⟨a7,e7,fi++[f],cd,⟨A',c'⟩,C,HL2.out,fun h0=>(by obtain⟨b1,b2,b3⟩:=HFB.out h0;have:=HFU.out (by first| rfl| trivial);have:=HZ.out;omega),fun h0=>?_,⟨fun _=>⟨hn1,hn2⟩,fun h=>(by rw[HA.out]at h;cases h)⟩,J3.out.put 23 _ (oT {p with codes:=cd} {h with codes:=C} fi f A' c' F),iE.snoc hown _ J3.out.ne.2.1,?_⟩
     ·obtain⟨b1,b2,b3⟩:=HFB.out h0;have h1:=HLEN.out (by first| rfl| trivial);rw[List.length_append,hn1];exact⟨by simp;omega,ag _⟩
     ·rw[hn1,hn2];exact dD _ _ _ _
   ·have e8:(k==8)=false:=ar.2 h8;have HFR:Hid (fiR v k t a=(⟨T,0,false,false,0⟩,a+m,x)):=aa (by unfold fiR;rw[ae h8,HRC.out]);clear h8;rw[HFR.out]at HL2 HFB;simp only at HL2 HFB;obtain⟨f,hf⟩:∃f:Fi,⟨T,0,false,false,0⟩=f:=⟨_,rfl⟩;rw[hf]at K6 HL2 HFB;have I7:=I6;have OF7:=OF6;have K7:=K6
    clear I6 OF6 K6 HFR;obtain⟨a7,ha7⟩:∃a7,a+m=a7:=⟨_,rfl⟩;rw[ha7]at I7 HL2 HFB;obtain⟨e7,he7⟩:∃e7,x=e7:=⟨_,rfl⟩;rw[he7]at I7 HL2 HFB;clear ha7 he7
    go_wp2_with fail
    rw[hf]at OF7 I7;clear kk;obtain⟨w7,hw7⟩:∃w7,w5.alloc (.cells #[.string T,.int .i64 0,.bool false,.bool false,.int .i64 0] 32)=w7:=⟨_,rfl⟩;have hw8:w5.alloc (.cells (dI f) 32)=w7:=by rw[←hf];exact hw7
    rw[hw8]at I7 OF7 K7;rw[hw7];clear hw7 hw8 hf;have q0:=K7.out.cell 0;have q1:=K7.out.cell 1;have q2:=K7.out.cell 2;have q3:=K7.out.cell 3;have q4:=K7.out.cell 4
    simp only[dI,ay,aE,aB]at q0 q1 q2 q3 q4;have HS:w7.cell? ⟨gp,23,none⟩=some (.slice F.a fi.length F.c)∧w7.cell? ⟨w5.heap.size,0,none⟩=some (.string f.topic)∧w7.cell? ⟨w5.heap.size,1,none⟩=some (.int .i64 f.qos)∧w7.cell? ⟨w5.heap.size,2,none⟩=some (.bool f.noLocal)∧w7.cell? ⟨w5.heap.size,3,none⟩=some (.bool f.asPub)∧w7.cell? ⟨w5.heap.size,4,none⟩=some (.int .i64 f.handling):=⟨(I7.out.pk.cell 23).trans (bP _ _),q0,q1,q2,q3,q4⟩;clear q0 q1 q2 q3 q4;refine je (fun w'=>w'.cell? ⟨gp,23,none⟩=some (.slice F.a fi.length F.c)∧w'.cell? ⟨w5.heap.size,0,none⟩=some (.string f.topic)∧w'.cell? ⟨w5.heap.size,1,none⟩=some (.int .i64 f.qos)∧w'.cell? ⟨w5.heap.size,2,none⟩=some (.bool f.noLocal)∧w'.cell? ⟨w5.heap.size,3,none⟩=some (.bool f.asPub)∧w'.cell? ⟨w5.heap.size,4,none⟩=some (.int .i64 f.handling)) [8] (by kernel_rfl) ?_
    replace HS:w7.drew.cell? ⟨gp,23,none⟩=some (.slice F.a fi.length F.c)∧w7.drew.cell? ⟨w5.heap.size,0,none⟩=some (.string f.topic)∧w7.drew.cell? ⟨w5.heap.size,1,none⟩=some (.int .i64 f.qos)∧w7.drew.cell? ⟨w5.heap.size,2,none⟩=some (.bool f.noLocal)∧w7.drew.cell? ⟨w5.heap.size,3,none⟩=some (.bool f.asPub)∧w7.drew.cell? ⟨w5.heap.size,4,none⟩=some (.int .i64 f.handling):=HS
    refine aJ (i:=0) (v:=?vg_0) [8] rfl (by kernel_rfl) (by kernel_rfl) (by kernel_rfl) (by kernel_rfl) (by kernel_rfl) (by kernel_rfl) (fun _ _ _ h=>h) (Or.inl ⟨by rfl,?hg_0⟩) HS ?rg_0
    case hg_0=>intro w' hSw;(try dsimp only at hSw);go_simp;try with_reducible rfl
    (try simp only[Act.put]);(try simp only[af]);(try simp only[am]);(try simp only[ak])
    refine aJ (i:=1) (v:=?vg_1) [8] rfl (by kernel_rfl) (by kernel_rfl) (by kernel_rfl) (by kernel_rfl) (by kernel_rfl) (by kernel_rfl) (fun _ _ _ h=>h) (Or.inl ⟨by rfl,?hg_1⟩) HS ?rg_1
    case hg_1=>intro w' hSw;(try dsimp only at hSw);go_simp;try with_reducible rfl
    (try simp only[Act.put]);(try simp only[af]);(try simp only[am]);(try simp only[ak])
    refine aJ (i:=2) (v:=?vg_2) [8] rfl (by kernel_rfl) (by kernel_rfl) (by kernel_rfl) (by kernel_rfl) (by kernel_rfl) (by kernel_rfl) (fun _ _ _ h=>h) (Or.inl ⟨by rfl,?hg_2⟩) HS ?rg_2
    case hg_2=>intro w' hSw;(try dsimp only at hSw);go_simp;try with_reducible rfl
    (try simp only[Act.put]);(try simp only[af]);(try simp only[am]);(try simp only[ak])
    refine aJ (i:=3) (v:=?vg_3) [8] rfl (by kernel_rfl) (by kernel_rfl) (by kernel_rfl) (by kernel_rfl) (by kernel_rfl) (by kernel_rfl) (fun _ _ _ h=>h) (Or.inl ⟨by rfl,?hg_3⟩) HS ?rg_3
    case hg_3=>intro w' hSw;(try dsimp only at hSw);go_simp;try with_reducible rfl
    (try simp only[Act.put]);(try simp only[af]);(try simp only[am]);(try simp only[ak])
    refine aJ (i:=4) (v:=?vg_4) [8] rfl (by kernel_rfl) (by kernel_rfl) (by kernel_rfl) (by kernel_rfl) (by kernel_rfl) (by kernel_rfl) (fun _ _ _ h=>h) (Or.inl ⟨by rfl,?hg_4⟩) HS ?rg_4
    case hg_4=>intro w' hSw;(try dsimp only at hSw);go_simp;try with_reducible rfl
    (try simp only[Act.put]);(try simp only[af]);(try simp only[am]);(try simp only[ak])
    refine aJ (i:=5) (v:=?vg_5) [8] rfl (by kernel_rfl) (by kernel_rfl) (by kernel_rfl) (by kernel_rfl) (by kernel_rfl) (by kernel_rfl) (fun _ _ _ h=>h) (Or.inl ⟨by rfl,?hg_5⟩) HS ?rg_5
    case hg_5=>intro w' hSw;(try dsimp only at hSw);go_simp;try with_reducible rfl
    (try simp only[Act.put]);(try simp only[af]);(try simp only[am]);(try simp only[ak])
    have J1:=aa (I7.out.drewN 1);have P1:Hid (iE w w7.drew fi F):=aa OF7.out;have K8:Hid (Bk w7.drew w5.heap.size 32 (dI f)):=aa K7.out;refine cq (rs:=[6]) (by kernel_rfl) (by simp) (ep.cons rfl (fun K hK=>?_) ep.nil)
    go_simp
    have J2:=aa (J1.out.alloc (.cells #[.string f.topic,.int .i64 f.qos,.bool f.noLocal,.bool f.asPub,.int .i64 f.handling] 32));have P2:=aa (jh P1.out (.cells #[.string f.topic,.int .i64 f.qos,.bool f.noLocal,.bool f.asPub,.int .i64 f.handling] 32));have K9:=aa (K8.out.alloc (.cells #[.string f.topic,.int .i64 f.qos,.bool f.noLocal,.bool f.asPub,.int .i64 f.handling] 32));clear HS;have HS:=And.intro ((J2.out.pk.cell 23).trans (bP _ _)) (And.intro (K9.out.cell 0) (And.intro (K9.out.cell 1) (And.intro (K9.out.cell 2) (And.intro (K9.out.cell 3) (K9.out.cell 4)))));simp only[dI,ay,aE,aB]at HS;refine hK.out _ _ (fun _=>HS) ?_;clear hK K
    (try simp only[Act.put]);(try simp only[af]);(try simp only[am]);(try simp only[ak])
    refine cq (rs:=[7]) (by kernel_rfl) (by simp) (ep.cons rfl (fun K hK=>?_) ep.nil);refine mS rfl (.tmp 63) (.tmp 65) 27 rfl w.heap.size 32 _ 5 40 Tryz.underlying27 oP rfl (by decide) (.slice F.a fi.length F.c) _ _ rfl P2.out _ _ 1 1 (fiC f) rfl (Bv _ f) (yG f) (by have:=HLF.out;unfold maxLen;omega) (by have:=HLF.out;omega) J2.out.mods.size ?_;intro v' y3 hown hg hat;obtain⟨A',c',rfl,hcap,hrd⟩:=jK hown;have J3:=aa (J2.out.grown hg (fun q hq=>(cX P2.out q hq).1));have K10:=aa (vV hg K9.out (fun e=>by have h2:=OFL.out _ e;omega));clear hcap hrd HS;have HS:=And.intro ((J3.out.pk.cell 23).trans (bP _ _)) (And.intro (K10.out.cell 0) (And.intro (K10.out.cell 1) (And.intro (K10.out.cell 2) (And.intro (K10.out.cell 3) (K10.out.cell 4)))));simp only[dI,ay,aE,aB]at HS;refine hK.out _ _ (fun _=>HS) ?_;clear hK K
    (try simp only[Act.put]);(try simp only[af]);(try simp only[am]);(try simp only[ak])
    refine cq (rs:=[8]) (by kernel_rfl) (by simp) (ep.cons rfl (fun K hK=>?_) ep.nil)
    go_simp
    refine hK.out _ _ (fun hn=>absurd (hn 8 (by simp)) (by decide)) (mc (d:=8) (by simp) _ _ _ _ (by kernel_rfl) ?_);have c23:=HS.1;have f23:=J3.out.pk.free 23;clear hK K HS
    (try simp only[Act.put]);(try simp only[af]);(try simp only[am]);(try simp only[ak])
    refine wpAny_take (i:=9) (v:=?vg_9) rfl (by kernel_rfl) (by kernel_rfl) (by kernel_rfl) (fun _ _ _ h=>h) (Or.inl ⟨by rfl,?hg_9⟩) ?rg_9
    case hg_9=>intro w';go_simp;try with_reducible rfl
    (try simp only[Act.put]);(try simp only[af]);(try simp only[am]);(try simp only[ak])
    refine wpAny_ready (rs:=[10]) (by kernel_rfl) (by simp) (tK rfl (fun K hK=>?_) AllReady.nil)
    go_simp
    refine hK.out _ _ ?_;clear hK K
    (try simp only[Act.put]);(try simp only[af]);(try simp only[am]);(try simp only[ak])
    refine wpAny_done (by kernel_rfl) ?_ _
    go_wp2
    go_roundg n
    case measure=>omega
    case rel=>
     obtain⟨hn1,hn2⟩:=HNIL.out.1 HA.out;refine⟨a7,e7,fi++[f],cd,⟨A',c'⟩,C,HL2.out,fun h0=>(by obtain⟨b1,b2,b3⟩:=HFB.out h0;have:=HFU.out (by first| rfl| trivial);have:=HZ.out;omega),fun h0=>?_,⟨fun _=>⟨hn1,hn2⟩,fun h=>(by rw[HA.out]at h;cases h)⟩,J3.out.put 23 _ (oT {p with codes:=cd} {h with codes:=C} fi f A' c' F),iE.snoc hown _ J3.out.ne.2.1,?_⟩
     ·obtain⟨b1,b2,b3⟩:=HFB.out h0;have h1:=HLEN.out (by first| rfl| trivial);rw[List.length_append,hn1];exact⟨by simp;omega,ag _⟩
     ·rw[hn1,hn2];exact dD _ _ _ _
end Go.Proofs.YtpcleamaieaefaaGreatDoor
namespace Go.Proofs.YtpcleamaieaefaaGreatDoor
open Go.RowKit
theorem Fr {t:ByteArray} {a:Nat} {e:Int} (h:a≤t.size):(rtC t a e).2.1≤t.size∧(rtC t a e).1.size≤65535:=by
 unfold rtC
 split
 ·exact⟨h,ag _⟩
 ·have:=uq (t.extract a t.size);rw[aj]at this;refine⟨by show a+(bL (t.extract a t.size)).2.1≤t.size;omega,this.2⟩
end Go.Proofs.YtpcleamaieaefaaGreatDoor
