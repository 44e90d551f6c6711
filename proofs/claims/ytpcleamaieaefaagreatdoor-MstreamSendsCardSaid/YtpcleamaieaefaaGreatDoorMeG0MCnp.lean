/- A part of what the laws stand on: MCnp. -/
import Derived.Test.YtpcleamaieaefaaGreatDoorMeG0MPubB
set_option maxRecDepth 10000
set_option maxHeartbeats 8000000
namespace Go.Proofs.YtpcleamaieaefaaGreatDoor
open Go.RowKit
attribute [local go_sem ↓] bD bF bH bI bu
attribute [local go_sem] bc aD bh bg bK bJ bd aY be aO ax cI dC dB dt dj di dA dr dp dn bW co bO bZ bX cz cy cw cu ct cC cn bS bP bR
def pc (b:Bool) (n:Int):Int:=if b=true then n else 0
def flN (p:Pk):Int:=pc p.hasUser 128+pc p.hasPass 64+pc p.will.retain 32+p.will.qos% 4*8+pc p.hasWill 4+pc p.clean 2
end Go.Proofs.YtpcleamaieaefaaGreatDoor
namespace Go.Proofs.YtpcleamaieaefaaGreatDoor
open Go.RowKit
def qE (s:ByteArray):ByteArray:=if s.size≤65535 then cQ s else⟨#[]⟩
def i8:ByteArray:=⟨#[0,4,77,81,84,84]⟩
def yK (v:Int) (p:Pk):ByteArray:=qK [i8,⟨(da v.toNat 1).toArray⟩,⟨(da (flN p).toNat 1).toArray⟩,⟨(da p.alive.toNat 2).toArray⟩,tW v p.kind p.props,qE p.client]
def yJ (v:Int) (p:Pk):ByteArray:=if p.hasWill=true then qK [yK v p,tW v 16 p.will.props,qE p.will.topic,qE p.will.payload]else yK v p
def yI (v:Int) (p:Pk):ByteArray:=if p.hasUser=true then qK [yJ v p,qE p.user]else yJ v p
def EY (v:Int) (p:Pk):ByteArray:=if p.hasPass=true then qK [yI v p,qE p.pass]else yI v p
def Dm (v:Int) (p:Pk):ByteArray×Int:=if p.kind=2 then Fg v p else if eR v p=0 then(EY v p,0)else(⟨#[]⟩,eR v p)
def fh (e n:Int):Int:=if e=0 then n else e
theorem gW {e n:Int} (h:fh e n=0) (hn:n≠0):False:=by
 unfold fh at h
 split at h
 ·exact hn h
 ·next x=>exact x h
def eB (t:ByteArray) (a:Nat) (e:Int):ByteArray×Nat×Int:=aH t (aH t a e 2).2.1 (aH t a e 2).2.2 (br t a e 2:Nat)
theorem nw (t:ByteArray) (a:Nat) (e:Int) (ha:a≤t.size):(eB t a e).1.size≤65535:=
 kI (dy ha e 2) _ _ 65535 (by have:=gU t a e ha;omega)
theorem pH (t:ByteArray) (a:Nat) (e:Int) (ha:a≤t.size):(eB t a e).2.1≤t.size:=dy (dy ha e 2) _ _
def fX (t:ByteArray) (a:Nat) (e:Int):ByteArray×Nat×Int:=((eB t a e).1,(eB t a e).2.1,if bN (eB t a e).1=true then(eB t a e).2.2 else fh (eB t a e).2.2 6)
def fv (v kind:Int) (t:ByteArray) (a:Nat) (e:Int):List Pr×Nat×Int:=
 if v=4∨e≠0 then([],a,e)else((aZ kind (t.extract a t.size)).1,a+(aZ kind (t.extract a t.size)).2.1,(aZ kind (t.extract a t.size)).2.2)
def tu (v:Int) (f:Nat):Bool:=
 !(decide (f% 2=1) || decide (f/ 8% 4=3) || (!decide (f/ 4% 2=1)&&decide (f/ 8% 8≠0)))&&(decide (v=5) || !decide (f/ 64% 2=1) || decide (f/ 128% 2=1))
def xz (f k:Nat) (c:ByteArray) (l:List Pr):Pk:=
 {pk0 with kind:=1,clean:=decide (f/ 2% 2=1),alive:=(k:Int),client:=c,hasUser:=decide (f/ 128% 2=1),hasPass:=decide (f/ 64% 2=1),hasWill:=decide (f/ 4% 2=1),will:={wl0 with qos:=((f/ 8% 4:Nat):Int),retain:=decide (f/ 32% 2=1)},props:=l}
def stN (s:ByteArray):Nat×Int:=((aH s 0 0 6).2.1,if(aH s 0 0 6).1=i8 then(aH s 0 0 6).2.2 else fh (aH s 0 0 6).2.2 5)
def stV (v:Int) (s:ByteArray) (a:Nat) (e:Int):Nat×Int:=((aH s a e 1).2.1,if((br s a e 1:Nat):Int)=v then(aH s a e 1).2.2 else fh (aH s a e 1).2.2 5)
def stG (v:Int) (s:ByteArray) (a:Nat) (e:Int):Nat×Nat×Int:=(br s a e 1,(aH s a e 1).2.1,if tu v (br s a e 1)=true then(aH s a e 1).2.2 else fh (aH s a e 1).2.2 7)
def stK (s:ByteArray) (a:Nat) (e:Int):Nat×Nat×Int:=(br s a e 2,(aH s a e 2).2.1,(aH s a e 2).2.2)
def cnV (v:Int) (s:ByteArray):Nat×Int:=stV v s (stN s).1 (stN s).2
def cnF (v:Int) (s:ByteArray):Nat×Nat×Int:=stG v s (cnV v s).1 (cnV v s).2
def cnK (v:Int) (s:ByteArray):Nat×Nat×Int:=stK s (cnF v s).2.1 (cnF v s).2.2
def cnP (v:Int) (s:ByteArray):List Pr×Nat×Int:=fv v 1 s (cnK v s).2.1 (cnK v s).2.2
def cnT (v:Int) (s:ByteArray):ByteArray×Nat×Int:=fX s (cnP v s).2.1 (cnP v s).2.2
def cn1 (v:Int) (s:ByteArray):Pk×Nat×Int:=(xz (cnF v s).1 (cnK v s).1 (cnT v s).1 (cnP v s).1,(cnT v s).2.1,(cnT v s).2.2)
def rA (v:Int) (s:ByteArray) (a:Nat) (e:Int):List Pr×Nat×Int:=fv v 16 s a e
def rz (v:Int) (s:ByteArray) (a:Nat) (e:Int):ByteArray×Nat×Int:=fX s (rA v s a e).2.1 (rA v s a e).2.2
def Aw (v:Int) (s:ByteArray) (a:Nat) (e:Int):ByteArray×Nat×Int:=eB s (rz v s a e).2.1 (rz v s a e).2.2
def cn2 (v:Int) (s:ByteArray) (r:Pk×Nat×Int):Pk×Nat×Int:=
 if r.1.hasWill=true then({r.1 with will:={r.1.will with props:=(rA v s r.2.1 r.2.2).1,topic:=(rz v s r.2.1 r.2.2).1,payload:=(Aw v s r.2.1 r.2.2).1}},(Aw v s r.2.1 r.2.2).2.1,(Aw v s r.2.1 r.2.2).2.2)else r
def cn3 (s:ByteArray) (r:Pk×Nat×Int):Pk×Nat×Int:=if r.1.hasUser=true then({r.1 with user:=(fX s r.2.1 r.2.2).1},(fX s r.2.1 r.2.2).2.1,(fX s r.2.1 r.2.2).2.2)else r
def cn4 (s:ByteArray) (r:Pk×Nat×Int):Pk×Nat×Int:=if r.1.hasPass=true then({r.1 with pass:=(eB s r.2.1 r.2.2).1},(eB s r.2.1 r.2.2).2.1,(eB s r.2.1 r.2.2).2.2)else r
def jS (v:Int) (s:ByteArray):Pk×Nat×Int:=cn4 s (cn3 s (cn2 v s (cn1 v s)))
def caF (s:ByteArray):Nat×Nat×Int:=(br s 0 0 1,(aH s 0 0 1).2.1,if br s 0 0 1≤1 then(aH s 0 0 1).2.2 else fh (aH s 0 0 1).2.2 7)
def caC (s:ByteArray):Nat×Nat×Int:=(br s (caF s).2.1 (caF s).2.2 1,(aH s (caF s).2.1 (caF s).2.2 1).2.1,(aH s (caF s).2.1 (caF s).2.2 1).2.2)
def caP (v:Int) (s:ByteArray):List Pr×Nat×Int:=fv v 2 s (caC s).2.1 (caC s).2.2
def Ds (f c:Nat) (l:List Pr):Pk:={pk0 with kind:=2,session:=decide (f=1),code:=(c:Int),props:=l}
def lL (v:Int) (s:ByteArray):Pk×Nat×Int:=(Ds (caF s).1 (caC s).1 (caP v s).1,(caP v s).2.1,(caP v s).2.2)
def oV (s:ByteArray) (r:Pk×Nat×Int):Int:=if s.size- r.2.1=0 then r.2.2 else fh r.2.2 5
def jT (v:Int) (s:ByteArray) (r:Pk×Nat×Int):Pk×Int:=
 if oV s r≠0 then(pk0,oV s r)else if eR v r.1≠0 then(pk0,eR v r.1)else(r.1,0)
def iB (v k:Int) (s:ByteArray):Pk×Int:=
 if ba v=false∨gm k=false then(pk0,2)else jT v s (if k=1 then jS v s else lL v s)
theorem i7 {t:ByteArray} {a:Nat} {e:Int} {k:Nat} (h:(aH t a e k).2.2=0):e=0∧a+k≤t.size∧aH t a 0 k=(t.extract a (a+k),a+k,0):=by
 by_cases he:e=0
 ·subst he
  by_cases hs:a+k≤t.size
  ·exact⟨rfl,hs,dZ hs⟩
  ·rw[kH hs]at h;cases h
 ·rw[fY he]at h;exact absurd h he
theorem xU {t:ByteArray} {a k:Nat} (_h:a+k≤t.size):(ls t).drop a=ls (t.extract a (a+k))++(ls t).drop (a+k):=by
 rw[db,←et,cg]
theorem xC {t:ByteArray} {a:Nat} {e:Int} (h:(eB t a e).2.2=0):e=0∧(eB t a e).2.1≤t.size∧(eB t a e).1.size≤65535∧(ls t).drop a=da (eB t a e).1.size 2++(ls (eB t a e).1++(ls t).drop (eB t a e).2.1):=by
 obtain⟨h1,h2,h3⟩:=i7 h;obtain⟨he,h5,h6⟩:=i7 (k:=2) h1;subst he;have h6':aH t a 0 2=(t.extract a (a+2),a+2,0):=h6;have hle:a≤t.size:=by omega
 have hlt:=nw t a 0 hle;have hE:eB t a 0=(t.extract (a+2) (a+2+br t a 0 2),a+2+br t a 0 2,0):=by
  rw[h6']at h3 h2;unfold eB;rw[h6'];exact h3
 rw[h6']at h2;simp only at h2;rw[hE]at hlt⊢;simp only at hlt⊢;have hsz:(t.extract (a+2) (a+2+br t a 0 2)).size=br t a 0 2:=by rw[aj];omega
 refine⟨trivial,h2,hlt,?_⟩;rw[hsz,←xU h2];exact lY h5
theorem sC {t:ByteArray} {a:Nat} {e:Int} (h:(fX t a e).2.2=0):e=0∧(fX t a e).2.1≤t.size∧(fX t a e).1.size≤65535∧bN (fX t a e).1=true∧(ls t).drop a=da (fX t a e).1.size 2++(ls (fX t a e).1++(ls t).drop (fX t a e).2.1):=by
 unfold fX at h⊢;simp only at h⊢
 by_cases hv:bN (eB t a e).1=true
 ·rw[if_pos hv]at h;obtain⟨h1,h2,h3,h4⟩:=xC h;exact⟨h1,h2,h3,hv,h4⟩
 ·rw[ae hv]at h;exact(gW h (by decide)).elim
def gP (v k:Int) (l:List Pr):List UInt8:=if v=4 then []else(aM k l).1
theorem pL (v k:Int) (l:List Pr):ls (tW v k l)=gP v k l:=by
 unfold tW gP
 split
 ·rfl
 ·exact jo _
theorem yv {v k:Int} {t:ByteArray} {a:Nat} {e:Int} (ha:a≤t.size) (h:(fv v k t a e).2.2=0):e=0∧(fv v k t a e).2.1≤t.size∧(v=4→(fv v k t a e).1=[])∧(aM k (fv v k t a e).1).2=0∧(ls t).drop a=gP v k (fv v k t a e).1++(ls t).drop (fv v k t a e).2.1:=by
 unfold fv at h⊢
 by_cases hv:v=4∨e≠0
 ·rw[if_pos hv]at h⊢;simp only at h⊢;have h4:v=4:=hv.resolve_right (fun x=>x h);refine⟨h,ha,fun _=>trivial,by rw[vL],?_⟩;unfold gP;rw[if_pos h4];rfl
 ·rw[ae hv]at h⊢;simp only at h⊢;have he:e=0:=aU.1 fun x=>hv (.inr x);have h4:v≠4:=fun x=>hv (.inl x);obtain⟨g1,g2,g3⟩:=fd (kind:=k) (s:=t.extract a t.size) (l:=(aZ k (t.extract a t.size)).1) (n:=(aZ k (t.extract a t.size)).2.1) (by rw[←h]);rw[aj]at g3;refine⟨he,by omega,fun x=>absurd x h4,g1,?_⟩;unfold gP;rw[ae h4,g2,ju,←et,cg]
def fS (p:Pk) (r:List UInt8):List UInt8:=if p.hasPass=true then da p.pass.size 2++(ls p.pass++r)else r
def fU (p:Pk) (r:List UInt8):List UInt8:=if p.hasUser=true then da p.user.size 2++(ls p.user++r)else r
def fW (v:Int) (p:Pk) (r:List UInt8):List UInt8:=if p.hasWill=true then gP v 16 p.will.props++(da p.will.topic.size 2++(ls p.will.topic++(da p.will.payload.size 2++(ls p.will.payload++r))))else r
def f1 (v:Int) (p:Pk) (r:List UInt8):List UInt8:=ls i8++(da v.toNat 1++(da (flN p).toNat 1++(da p.alive.toNat 2++(gP v 1 p.props++(da p.client.size 2++(ls p.client++r))))))
theorem lK (x:ByteArray) (l:List ByteArray):ls (qK (x :: l))=ls x++ls (qK l):=by
 rw[tD,tD];rfl
theorem nt:ls (qK [])=[]:=by rw[tD];rfl
theorem lI {x:ByteArray} (h:x.size≤65535):ls (qE x)=da x.size 2++ls x:=by
 unfold qE;rw[if_pos h];have:=oa x ⟨#[]⟩;rw[show ls (⟨#[]⟩:ByteArray)=[]from rfl,cW]at this;rw[←this]
 congr 1
 exact eX (by unfold cQ;simp[ls])
theorem uV {x:ByteArray} (hv:fp x=true):bN x=true:=by
 unfold fp jY at hv;simp only[eh]at hv;exact hv.1.2
structure CnGood (v:Int) (p:Pk):Prop where
 ver:v=4∨v=5
 kind:p.kind=1
 same:p=kS p
 old:v=4→p.props=[]∧p.will.props=[]
 alive:0≤p.alive∧p.alive<65536
 qos:0≤p.will.qos∧p.will.qos≤2
 pair:v=4→p.hasPass=true→p.hasUser=true
 client:bN p.client=true
 user:bN p.user=true
 topic:p.hasWill=true→bN p.will.topic=true
 payload:p.will.payload.size≤65535
 pass:p.pass.size≤65535
 props:(aM 1 p.props).2=0
 wprops:(aM 16 p.will.props).2=0
theorem Gk {v:Int} {p:Pk} (g:CnGood v p) (r:List UInt8):ls (EY v p)++r=f1 v p (fW v p (fU p (fS p r))):=by
 have e1:=lI (gL g.client);have e2:=lI (gL g.user);have e3:=lI g.pass;have e4:=lI g.payload;have h1:∀R,ls (yK v p)++R=f1 v p R:=fun R=>by
  unfold yK f1;simp only[lK,nt,jo,pL,e1,g.kind,List.append_assoc,cW]
 have h2:∀R,ls (yJ v p)++R=f1 v p (fW v p R):=fun R=>by
  unfold yJ fW
  by_cases h:p.hasWill=true
  ·rw[if_pos h,if_pos h,←h1];simp only[lK,nt,pL,lI (gL (g.topic h)),e4,List.append_assoc,cW]
  ·rw[ae h,ae h,h1]
 have h3:∀R,ls (yI v p)++R=f1 v p (fW v p (fU p R)):=fun R=>by
  unfold yI fU
  by_cases h:p.hasUser=true
  ·rw[if_pos h,if_pos h,←h2];simp only[lK,nt,e2,List.append_assoc,cW]
  ·rw[ae h,ae h,h2]
 unfold EY fS
 by_cases h:p.hasPass=true
 ·rw[if_pos h,if_pos h,←h3];simp only[lK,nt,e3,List.append_assoc,cW]
 ·rw[ae h,ae h,h3]
end Go.Proofs.YtpcleamaieaefaaGreatDoor
