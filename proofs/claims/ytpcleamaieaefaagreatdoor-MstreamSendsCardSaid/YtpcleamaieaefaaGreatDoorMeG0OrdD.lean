/- A part of what the laws stand on: OrdD, ConA, MFil, SubA, FilC, MSubB, SubM. -/
import Derived.OrdersHeld
import Derived.Deep.RegionHeld
import Derived.Test.YtpcleamaieaefaaGreatDoorMeG0MTai
import Derived.Lib.SplitLaws
import Derived.Shelf.Strings.SplitCore
import Derived.Shelf.Strings.Search3
import Derived.Shelf.Strings.Count
import Derived.Shelf.Strings.Cut
import Derived.Lib.ConvBytes
import Derived.Laws.IdiomCopy
set_option maxRecDepth 10000
set_option maxHeartbeats 8000000
namespace Go.Proofs.YtpcleamaieaefaaGreatDoor
open Go
section
variable {P:Program} {ops:Array Oper} {Q:Exit→Act→World→Prop} {md:Region.Mode} {S:World→Prop} {D:List Nat}
def pd (P:Program) (md:Region.Mode) (ops:Array Oper) (Q:Exit→Act→World→Prop) (S:World→Prop) (D:List Nat):Nat→Array Bool→Act→World→Prop
 | 0,listed,a,w=>Region.ready md ops listed=[]∧Q .normal a w
 | fuel+1,listed,a,w=>
   (Region.ready md ops listed=[]→Q .normal a w)∧
   ∀i∈Region.ready md ops listed,wpOp P ops Q i (fun a' w'=>((∀d∈D,(listed.setIfInBounds i true).getD d true=false)→S w')∧pd P md ops Q S D fuel (listed.setIfInBounds i true) a' w') a w
theorem vO:∀(fuel:Nat) (listed:Array Bool) (a:Act) (w:World),pd P md ops Q S D fuel listed a w→wpAny P md ops Q fuel listed a w
 | 0,_,_,_,h=>h
 | fuel+1,_,_,_,h=>⟨h.1,fun i hi=>wpOp_mono (fun a' w' h'=>vO fuel _ a' w' h'.2) (h.2 i hi)⟩
theorem tr {listed:Array Bool} {i:Nat} (h:listed.getD i true=false):listed.getD i false=false:=by
 rcases fj i listed.size with h'| h'
 ·simp[h']at h⊢;exact h
 ·simp[Array.getElem?_eq_none h']at h
def tH (md:Region.Mode) (ops:Array Oper) (i:Nat) (L:List Nat):Bool:=
 L.all fun j=>match ops[j]? with
  | some oj=>j !=i&&oj.after.any fun e=>Region.binds md e&&(e.on==i || L.contains e.on)
  | none=>false
theorem oW {i:Nat} {L:List Nat} (h:tH md ops i L=true) (j:Nat) (hj:j∈L):
  j≠i∧∃oj,ops[j]? =some oj∧∃e∈oj.after,Region.binds md e=true∧(e.on=i∨e.on∈L):=by
 have h1:=dL.1 h j hj
 split at h1
 ·rename_i oj hoj;simp only[eh,aA]at h1;obtain⟨e,he,hb⟩:=Array.any_eq_true'.1 h1.2;simp only[eh,Bool.or_eq_true,aK,IE]at hb;exact⟨h1.1,oj,hoj,e,he,hb.1,hb.2⟩
 ·cases h1
theorem xE {i:Nat} {oi:Oper} {v:Value} {L:List Nat} (hi:ops[i]? =some oi) (hsel:∀(j:Nat) (o:Oper) cs b,ops[j]? =some o→o.op≠ .select cs b)
  (hQ:∀c a w,Q (.panic c) (a.put oi.dst v) w→Q (.panic c) a w) (hD:∀d∈D,d∈L) (hL:tH md ops i L=true):
  ∀(fuel:Nat) (listed:Array Bool) (a:Act) (w:World),
   (∀j oj,ops[j]? =some oj→j≠i→listed.getD j true=false→(∀e∈oj.after,Region.binds md e=true→e.on≠i)→oi.apart ops oj=true)→
   i∈Region.ready md ops listed→(∀j∈L,listed.getD j true=false)→YieldsIf P ops S oi v a→S w→
   pd P md ops Q S D fuel (listed.setIfInBounds i true) (a.put oi.dst v) w→pd P md ops Q S D (fuel+1) listed a w:=by
 intro fuel
 induction fuel with
 | zero=>
   intro listed a w _ hr hun hy hS H;refine⟨fun h=>(by rw[h]at hr;cases hr),fun j hj=>?_⟩
   by_cases hji:j=i
   ·subst hji;exact hy.wpOp hi hS ⟨fun _=>hS,H⟩
   ·have:=ready_mono hj hji;rw[H.1]at this;cases this
 | succ fuel ih=>
   intro listed a w hfree hr hun hy hS H;refine⟨fun h=>(by rw[h]at hr;cases hr),fun j hj=>?_⟩
   by_cases hji:j=i
   ·subst hji;exact hy.wpOp hi hS ⟨fun _=>hS,H⟩
   ·have h1:=H.2 j (ready_mono hj hji);obtain⟨hjun,oj,hoj,hall⟩:=mem_ready.1 hj;have hiun:=(mem_ready.1 hr).1;have hnot:∀e∈oj.after,Region.binds md e=true→e.on≠i:=fun e he hb heq=>by
     have h1:=hall e he hb;rw[heq,tr hiun]at h1;cases h1
    have hjL:j ∉ L:=fun hjL=>by
     obtain⟨-,o',ho',e,he,hb,hon⟩:=oW hL j hjL;have:o'=oj:=Option.some.inj (ho'.symm.trans hoj);subst this;have h2:=hall e he hb;rcases hon with hon| hon
     ·rw[hon,tr hiun]at h2;cases h2
     ·rw[tr (hun _ hon)]at h2;cases h2
    have h2:=wpOp_putIf hoj (hfree j oj hoj hji hjun hnot) (fun cs b=>hsel i oi cs b hi) (fun cs b=>hsel j oj cs b hoj) hQ hy h1;have hfree':∀k ok,ops[k]? =some ok→k≠i→(listed.setIfInBounds j true).getD k true=false→
      (∀e∈ok.after,Region.binds md e=true→e.on≠i)→oi.apart ops ok=true:=fun k ok hk hki hun hno=>by
     refine hfree k ok hk hki ?_ hno
     by_cases hjk:j=k
     ·subst hjk;exact hjun
     ·rw[getD_set_ne true hjk]at hun;exact hun
    have hunj:∀k∈L,(listed.setIfInBounds j true).getD k true=false:=fun k hk=>by
     have hjk:j≠k:=fun h=>by rw[h]at hjL;exact hjL hk
     rw[getD_set_ne true hjk];exact hun k hk
    have hunD:∀d∈D,((listed.setIfInBounds i true).setIfInBounds j true).getD d true=false:=fun d hd=>by
     have hdL:=hD d hd;have hdi:i≠d:=fun h=>(oW hL d hdL).1 h.symm;have hdj:j≠d:=fun h=>by rw[h]at hjL;exact hjL hdL
     rw[getD_set_ne true hdj,getD_set_ne true hdi];exact hun d hdL
    refine wpOp_mono (fun a' w' h3=>⟨fun _=>h3.2.1 hunD,ih (listed.setIfInBounds j true) a' w' hfree' (ready_mono hr (Ne.symm hji)) hunj h3.1 (h3.2.1 hunD) ?_⟩) h2;rw[Array.setIfInBounds_comm _ _ hji];exact h3.2.2
def Gh (listed:Array Bool) (L:List Nat):Bool:=L.all fun j=>!listed.getD j true
theorem aJ {i:Nat} (L:List Nat) {oi:Oper} {v:Value} {fuel:Nat} {listed:Array Bool} {a:Act} {w:World} (hi:ops[i]? =some oi)
  (hs:Region.noSelect ops=true) (hf:Region.free md ops listed i=true) (hr:(Region.ready md ops listed).contains i=true)
  (hL:tH md ops i L=true) (hD:(D.all fun d=>L.contains d)=true) (hn:Gh listed L=true)
  (hQ:∀c a w,Q (.panic c) (a.put oi.dst v) w→Q (.panic c) a w) (hy:YieldsIf P ops S oi v a) (hS:S w)
  (h:pd P md ops Q S D fuel (listed.setIfInBounds i true) (a.put oi.dst v) w):pd P md ops Q S D (fuel+1) listed a w:=
 xE (L:=L) hi (Region.noSelect_spec hs) hQ (fun d hd=>by simpa using dL.1 hD d hd) hL fuel listed a w (Region.free_spec hi hf) (by simpa using hr)
  (fun j hj=>by simpa using dL.1 hn j hj) hy hS h
def ep (P:Program) (md:Region.Mode) (ops:Array Oper) (Q:Exit→Act→World→Prop) (S:World→Prop) (D:List Nat) (fuel:Nat) (listed:Array Bool) (a:Act) (w:World) (rs:List Nat):Prop:=
 ∀i∈rs,wpOp P ops Q i (fun a' w'=>((∀d∈D,(listed.setIfInBounds i true).getD d true=false)→S w')∧pd P md ops Q S D fuel (listed.setIfInBounds i true) a' w') a w
theorem ep.nil {fuel:Nat} {listed:Array Bool} {a:Act} {w:World}:ep P md ops Q S D fuel listed a w []:=fun _ h=>by cases h
theorem ep.cons {fuel:Nat} {listed:Array Bool} {a:Act} {w:World} {i:Nat} {o:Oper} {rs:List Nat} (ho:ops[i]? =some o)
  (h:∀K':Act→World→Prop,Shut (∀a w,((∀d∈D,(listed.setIfInBounds i true).getD d true=false)→S w)→pd P md ops Q S D fuel (listed.setIfInBounds i true) a w→K' a w)→if Region.wanted o (yielded ops a.tmps)=true then Oper.wp P o a w K' Q else K' (a.put o.dst undef) w)
  (hs:ep P md ops Q S D fuel listed a w rs):ep P md ops Q S D fuel listed a w (i :: rs):=fun j hj=>by
 rcases ie.1 hj with rfl| hj
 ·exact wpOp_step ho (fun K' hK=>h K' (fun a w hS hW=>hK a w ⟨hS,hW⟩))
 ·exact hs j hj
theorem cq {rs:List Nat} {fuel:Nat} {listed:Array Bool} {a:Act} {w:World} (hr:Region.ready md ops listed=rs) (hne:rs≠[])
  (h:ep P md ops Q S D fuel listed a w rs):pd P md ops Q S D (fuel+1) listed a w:=⟨fun h0=>absurd (hr▸h0) hne,hr▸h⟩
theorem oh {listed:Array Bool} {a:Act} {w:World} (hr:Region.ready md ops listed=[]) (h:Q .normal a w):
  ∀fuel,pd P md ops Q S D fuel listed a w
 | 0=>⟨hr,h⟩
 | _+1=>⟨fun _=>h,by rw[hr];simp⟩
theorem yF {listed:Array Bool} {i d:Nat} (h:listed.getD d true=true):(listed.setIfInBounds i true).getD d true=true:=by
 by_cases hid:i=d
 ·subst hid;rcases fj i listed.size with h'| h'
  ·simp[h']
  ·simp[Array.getElem?_eq_none h',Array.setIfInBounds_eq_of_size_le h']
 ·rw[getD_set_ne true hid];exact h
theorem mc {d:Nat} (hd:d∈D):∀(fuel:Nat) (listed:Array Bool) (a:Act) (w:World),listed.getD d true=true→wpAny P md ops Q fuel listed a w→pd P md ops Q S D fuel listed a w
 | 0,_,_,_,_,h=>h
 | fuel+1,_,_,_,hl,h=>⟨h.1,fun i hi=>wpOp_mono (fun a' w' h'=>⟨fun hn=>absurd ((yF hl).symm.trans (hn d hd)) (by decide),mc hd fuel _ a' w' (yF hl) h'⟩) (h.2 i hi)⟩
theorem tK {fuel:Nat} {listed:Array Bool} {a:Act} {w:World} {i:Nat} {o:Oper} {rs:List Nat} (ho:ops[i]? =some o)
  (h:∀K':Act→World→Prop,Shut (∀a w,wpAny P md ops Q fuel (listed.setIfInBounds i true) a w→K' a w)→if Region.wanted o (yielded ops a.tmps)=true then Oper.wp P o a w K' Q else K' (a.put o.dst undef) w)
  (hs:AllReady P md ops Q fuel listed a w rs):AllReady P md ops Q fuel listed a w (i :: rs):=AllReady.cons ho h hs
theorem je {id:Nat} {a:Act} {w:World} (S:World→Prop) (D:List Nat) (hm:P.follows .mixedOrders=true)
  (h:pd P .any ops Q S D ops.size (Array.replicate ops.size false) a w.drew):(Code.region id ops true).wp P Q a w:=
 wp_region_any hm (vO _ _ _ _ h)
end
end Go.Proofs.YtpcleamaieaefaaGreatDoor
namespace Go.Proofs.YtpcleamaieaefaaGreatDoor
open Go.RowKit
def qH (k:Int):Bool:=decide (12≤k∧k≤15)
def fO (v k:Int):Bool:=decide ((k=14∨k=15)∧v=5)
def jR (v k:Int):Int:=if qH k=false∨¬(v=4∨v=5)then 2 else if k=15∧v=4 then 8 else 0
def conQ (v:Int) (p:Pk):Pk:=if fO v p.kind=true then aP p.kind 0 p.code p.props else aP p.kind 0 0 []
def fH (v:Int) (p:Pk):Int:=
 if jR v p.kind≠0 then jR v p.kind
 else if fO v p.kind=true∧may p.kind p.code=false then 2
 else if p≠conQ v p then 2
 else(aM p.kind p.props).2
def xV (code:Int) (l:List Pr) (k:Int):List UInt8:=if code<0∨255<code∨(aM k l).2≠0 then []else oG k code l
def FY (v:Int) (p:Pk):List UInt8×Int:=if fH v p=0 then(xV p.code p.props p.kind,0)else([],fH v p)
def pK (k:Int) (s:ByteArray):Int:=if(dg k s 0).2.2.2≠0 then(dg k s 0).2.2.2 else if(dg k s 0).2.2.1<s.size then 5 else 0
def iO (k:Int) (s:ByteArray):Int×List Pr×Int:=if pK k s≠0 then(0,[],pK k s)else((dg k s 0).1,(dg k s 0).2.1,0)
def fA (v k:Int) (s:ByteArray):Int×List Pr×Int:=if fO v k=true then iO k s else(0,[],if s.size≠0 then 5 else 0)
def fN (v k:Int) (s:ByteArray):Pk:=aP k 0 (fA v k s).1 (fA v k s).2.1
def gX (v k:Int) (s:ByteArray):Pk×Int:=
 if jR v k≠0 then(pk0,jR v k)
 else if(fA v k s).2.2≠0 then(pk0,(fA v k s).2.2)
 else if fH v (fN v k s)≠0 then(pk0,fH v (fN v k s))
 else(fN v k s,0)
structure ConGood (v:Int) (p:Pk):Prop where
 k:jR v p.kind=0
 may:fO v p.kind=true→may p.kind p.code=true
 old:fO v p.kind=false→p.code=0∧p.props=[]
 same:p=conQ v p
 c1:0≤p.code
 c2:p.code<256
 bytes:(aM p.kind p.props).2=0
theorem Ap {v:Int} {p:Pk} (x:fH v p=0):ConGood v p:=by
 unfold fH at x
 split at x
 ·next h=>exact absurd x h
 ·next hk=>
  split at x
  ·cases x
  ·next hm=>
   split at x
   ·cases x
   ·next hs=>
    have hs':=aU.1 hs;have hq:fO v p.kind=false→p.code=0∧p.props=[]:=fun hf=>by
     have hq:conQ v p=aP p.kind 0 0 []:=by unfold conQ;rw[ae (by rw[hf];decide)]
     rw[hq]at hs';exact⟨congrArg Pk.code hs',congrArg Pk.props hs'⟩
    have hmay:fO v p.kind=true→Go.Proofs.YtpcleamaieaefaaGreatDoor.may p.kind p.code=true:=fun ht=>by
     cases e:Go.Proofs.YtpcleamaieaefaaGreatDoor.may p.kind p.code
     ·exact absurd ⟨ht,e⟩ hm
     ·rfl
    have hc:0≤p.code∧p.code<256:=by
     cases e:fO v p.kind
     ·have:=(hq e).1;omega
     ·exact n6 (hmay e)
    exact⟨aU.1 hk,hmay,hq,hs',hc.1,hc.2,x⟩
theorem ConGood.ok {v:Int} {p:Pk} (x:ConGood v p):fH v p=0:=by
 unfold fH;rw[ae (fun h=>h x.k),ae,ae (fun h=>h x.same)]
 ·exact x.bytes
 ·rintro ⟨h1,h2⟩;rw[x.may h1]at h2;cases h2
theorem ConGood.tail {v:Int} {p:Pk} (x:ConGood v p):xV p.code p.props p.kind=oG p.kind p.code p.props:=by
 unfold xV;rw[ae];rintro (h| h| h)
 ·have:=x.c1;omega
 ·have:=x.c2;omega
 ·exact h x.bytes
theorem we {v k:Int} {s:ByteArray} (h:(fA v k s).2.2=0):oG k (fA v k s).1 (fA v k s).2.1=ls s:=by
 unfold fA at h⊢;cases e:fO v k
 ·rw[e,ae (by decide)]at h;rw[ae (by decide)];have hz:s.size=0:=aU.1 fun x=>by simp only at h;rw[if_pos x]at h;cases h
  have:ls s=[]:=aF (by rw[aN];exact hz);rw[this];rfl
 ·rw[e,if_pos rfl]at h;rw[if_pos rfl];unfold iO at h⊢;have he:pK k s=0:=aU.1 fun x=>by rw[if_pos x]at h;exact x h
  rw[ae (fun x=>x he)];unfold pK at he;have h1:(dg k s 0).2.2.2=0:=aU.1 fun x=>by rw[if_pos x]at he;exact x he
  rw[ae (fun x=>x h1)]at he;have h2:¬(dg k s 0).2.2.1<s.size:=fun x=>by rw[if_pos x]at he;cases he
  have:=(rM (k:=k) (t:=s) (a:=0) (by omega) h1 (by omega)).1;rw[cS]at this;exact this.symm
theorem An (v k:Int) (s:ByteArray):(gX v k s=(pk0,(gX v k s).2)∧(gX v k s).2≠0)∨
  ((gX v k s).2=0∧ConGood v (gX v k s).1∧(gX v k s).1.kind=k∧xV (gX v k s).1.code (gX v k s).1.props (gX v k s).1.kind=ls s):=by
 unfold gX
 by_cases h1:jR v k≠0
 ·rw[if_pos h1];exact .inl ⟨rfl,h1⟩
 rw[ae h1]
 by_cases h2:(fA v k s).2.2≠0
 ·rw[if_pos h2];exact .inl ⟨rfl,h2⟩
 rw[ae h2]
 by_cases h3:fH v (fN v k s)≠0
 ·rw[if_pos h3];exact .inl ⟨rfl,h3⟩
 rw[ae h3];have g:=Ap (aU.1 h3);refine .inr ⟨rfl,g,rfl,?_⟩;simp only;rw[g.tail];exact we (aU.1 h2)
theorem mA {v k:Int} {s:ByteArray} (hs:s.size≤140737488351232):(∀p∈(fA v k s).2.1,ea p)∧(fA v k s).2.1.length≤1000:=by
 unfold fA
 split
 ·unfold iO
  split
  ·exact⟨by simp,ag _⟩
  ·exact⟨nN hs,nM k s 0⟩
 ·exact⟨by simp,ag _⟩
theorem EO {v k:Int} {s:ByteArray} (hs:s.size≤140737488351232):PkOk (gX v k s).1:=by
 have hpre:PkOk (fN v k s):=iw (mA hs).1 (by have:=(mA (v:=v) (k:=k) hs).2;omega);have h0:PkOk pk0:=iw (k:=0) (i:=0) (c:=0) (l:=[]) (by simp) (by simp);unfold gX
 split
 ·exact h0
 ·split
  ·exact h0
  ·split
   ·exact h0
   ·exact hpre
end Go.Proofs.YtpcleamaieaefaaGreatDoor
namespace Go.Proofs.YtpcleamaieaefaaGreatDoor
open Go.RowKit Go.Shelf
def lvs (s:ByteArray):List ByteArray:=Lib.splitB ⟨#[47]⟩ 0 (Lib.countB s ⟨#[47]⟩) s
theorem lW (l:List UInt8) (c:UInt8) (j:Nat):Lib.occAt l [c] j=(l[j]? ==some c):=by
 unfold Lib.occAt;rw[←List.head?_drop];cases l.drop j with
 | nil=>rfl
 | cons b t=>
   rw[eG];simp[List.isPrefixOf];exact eq_comm
theorem Aa {l:List UInt8} {c:UInt8} {i:Nat} (h:l[i]? =some c) (hn:∀j,j<i→l[j]? ≠some c):Lib.index l [c]=i:=by
 refine Lib.index_first ?_ ?_ ?_
 ·have:=(cR.1 h).1;omega
 ·rw[lW,h];simp
 ·intro j hj;rw[lW];simpa using hn j hj
theorem xc {l:List UInt8} {c:UInt8} (hn:∀j:Nat,l[j]? ≠some c):Lib.index l [c]= -1:=
 Lib.index_none fun j _=>by rw[lW];simpa using hn j
theorem Cm {s:ByteArray} (h:∀j:Nat,(ls s)[j]? ≠some 47):lvs s=[s]:=Lib.splitB_miss _ _ _ _ (xc h)
theorem Er {s:ByteArray} {i:Nat} (h:(ls s)[i]? =some 47) (hn:∀j:Nat,j<i→(ls s)[j]? ≠some 47):lvs s=s.extract 0 i :: lvs (s.extract (i+1) s.size):=by
 have hi:Lib.indexB s ⟨#[47]⟩=i:=Aa h hn;have hc:=Lib.countB_hit s ⟨#[47]⟩ i (by decide) hi;unfold lvs;rw[hc,Nat.add_comm 1,Lib.splitB_hit _ _ _ _ i hi];rfl
theorem n7 (s:ByteArray):(lvs s).length=Lib.countB s ⟨#[47]⟩+1:=Lib.splitB_all _ (by decide) 0 _ s rfl
theorem Eo (s:ByteArray):(lvs s).length≤s.size+1:=by
 have:=Lib.countB_le ⟨#[47]⟩ (by decide) s.size s (ac _);rw[n7];omega
theorem xk (s:ByteArray):(∀j:Nat,(ls s)[j]? ≠some 47)∨∃i,i<s.size∧(ls s)[i]? =some 47∧∀j:Nat,j<i→(ls s)[j]? ≠some 47:=by
 rcases Lib.index_spec (ls s) [47]with ⟨-,h⟩ | ⟨i,-,-,h,hn⟩
 ·left
  intro j hj;have hl:=(cR.1 hj).1;have:=h j (by omega);rw[lW,hj]at this;simp at this
 ·right
  rw[lW]at h;have h':(ls s)[i]? =some 47:=by simpa using h
  have hl:=(cR.1 h').1;refine⟨i,by rw[aN]at hl;exact hl,h',fun j hj he=>?_⟩;have:=hn j hj;rw[lW,he]at this;simp at this
theorem Ep {C:ByteArray→Prop} (h1:∀s,(∀j:Nat,(ls s)[j]? ≠some 47)→C s)
  (h2:∀s i,i<s.size→(ls s)[i]? =some 47→(∀j:Nat,j<i→(ls s)[j]? ≠some 47)→C (s.extract (i+1) s.size)→C s) (s:ByteArray):C s:=by
 suffices h:∀n (t:ByteArray),t.size≤n→C t from h s.size s (ac _)
 intro n
 induction n with
 | zero=>
   intro t ht;refine h1 t fun j hj=>?_;have:=(cR.1 hj).1;rw[aN]at this;omega
 | succ n ih=>
   intro t ht;rcases xk t with h| ⟨i,hi,h,hn⟩
   ·exact h1 t h
   ·exact h2 t i hi h hn (ih _ (by rw[aj];omega))
theorem Cl (s:ByteArray):∀x∈lvs s,x.size≤s.size:=by
 induction s using Ep with
 | h1 s h=>rw[Cm h];intro x hx;simp at hx;rw[hx];exact ac _
 | h2 s i hi h hn ih=>
   rw[Er h hn];intro x hx;rcases ie.1 hx with rfl| hx
   ·rw[aj];omega
   ·have:=ih x hx;rw[aj]at this;omega
def mi (x:ByteArray):Bool:=(x.toList==[43]) || (x.toList==[35])
def j8 (x:ByteArray) (last:Bool):Bool:=!(((x.toList==[35])&& !last) || (!mi x&&mg x))
def jk (l:List ByteArray):Bool:=(List.range l.length).all fun i=>j8 (l.getD i ⟨#[]⟩) (decide (i+1=l.length))
def gj (s:ByteArray):Bool:=jY s&&jk (lvs s)
theorem Ct {l:List ByteArray} (h:∀i x,l[i]? =some x→j8 x (decide (i+1=l.length))=true):jk l=true:=by
 unfold jk;rw[dL];intro i hi;have hi:=gn.1 hi;rw[List.getD_eq_getElem?_getD,List.getElem?_eq_getElem hi];exact h i _ (List.getElem?_eq_getElem hi)
theorem yA {l:List ByteArray} {i:Nat} {x:ByteArray} (hx:l[i]? =some x) (h:j8 x (decide (i+1=l.length))=false):jk l=false:=by
 unfold jk;rw[List.all_eq_false];have hi:=(cR.1 hx).1;refine⟨i,gn.2 hi,?_⟩;rw[List.getD_eq_getElem?_getD,hx];simp[h]
theorem Gc (x:ByteArray):x.toList=ls x:=Lib.toList_data x
theorem ix (s:ByteArray) (i:Nat):ls (s.extract 0 i)=(ls s).take i:=by
 show(s.extract 0 i).data.toList=_;rw[Lib.extract_from_zero];rfl
theorem m9 (s:ByteArray) (a:Nat):ls (s.extract a s.size)=(ls s).drop a:=by
 show(s.extract a s.size).data.toList=_;rw[Lib.extract_to_end];rfl
theorem rJ (s:ByteArray) (a:Nat):(s.extract a s.size).size=s.size- a:=by rw[aj];omega
def tt:List UInt8:=[36,115,104,97,114,101,47]
def gV (s:ByteArray):Bool:=tt.isPrefixOf (ls s)
def kY (s:ByteArray):ByteArray:=if gV s then s.extract 7 s.size else s
def ky (s:ByteArray):ByteArray×ByteArray×Bool:=
 if Lib.indexB s ⟨#[47]⟩= -1 then(s,⟨#[]⟩,false)else(s.extract 0 (Lib.indexB s ⟨#[47]⟩).toNat,s.extract ((Lib.indexB s ⟨#[47]⟩).toNat+1) s.size,true)
def fy (s:ByteArray):Bool:=gV s&&((ky (kY s)).2.2&&(bN s&&(fp (ky (kY s)).1&&gj (ky (kY s)).2.1)))
theorem Dc (s:ByteArray):(ky s).1.size≤s.size∧(ky s).2.1.size≤s.size:=by
 unfold ky
 split
 ·exact⟨ac _,ag _⟩
 ·simp only[aj];omega
theorem Bd (s:ByteArray):(kY s).size≤s.size:=by
 unfold kY
 split
 ·rw[aj];omega
 ·exact ac _
theorem vx {s:ByteArray} (h:gV s=true):7≤s.size∧(ls s)[6]? =some 47∧∀j,j<6→(ls s)[j]? ≠some 47:=by
 unfold gV at h;obtain⟨t,ht⟩:=List.isPrefixOf_iff_prefix.1 h;have hl:(ls s).length=7+t.length:=by rw[←ht];simp[tt];omega
 rw[aN]at hl;refine⟨by omega,by rw[←ht];rfl,fun j hj=>?_⟩;rw[←ht];have:j=0∨j=1∨j=2∨j=3∨j=4∨j=5:=by omega
 rcases this with rfl| rfl| rfl| rfl| rfl| rfl<;>simp[tt]
end Go.Proofs.YtpcleamaieaefaaGreatDoor
namespace Go.Proofs.YtpcleamaieaefaaGreatDoor
open Go.RowKit
def ir (v k:Int):Bool:=decide ((v=4∨v=5)∧8≤k∧k≤11)
def jm (k:Int):Bool:=decide (k=8∨k=10)
def pP (v k:Int):Bool:=decide (k=11∧v=4)
def sbQ (v:Int) (p:Pk):Pk:=
 if jm p.kind=true then {pk0 with kind:=p.kind,id:=p.id,props:=p.props,filters:=p.filters}
 else if pP v p.kind=true then {pk0 with kind:=p.kind,id:=p.id,props:=p.props}
 else {pk0 with kind:=p.kind,id:=p.id,props:=p.props,codes:=p.codes}
def lj (v:Int) (p:Pk):Bool:=if jm p.kind=true then decide (0<p.filters.length)else if pP v p.kind=true then true else decide (0<p.codes.length)
def eH (v:Int) (p:Pk):Bool:=!(decide (p.id<1) || (decide (65535<p.id) || (decide (v=4)&&decide (0<p.props.length))))&&(lj v p&&decide (p=sbQ v p))
def jZ (n:Int):Bool:=decide (0≤n)&&decide (n<3)
def l9 (f:Fi):Bool:=decide (f=⟨f.topic,f.qos,false,false,0⟩)
def nT (v k:Int) (f:Fi):Bool:=
 if k=10 then l9 f&&decide (f.qos=0)else if v=4 then l9 f&&jZ f.qos else jZ f.qos&&(jZ f.handling&& !(fy f.topic&&f.noLocal))
def xF (v k c:Int):Bool:=if v=4 then tq c else may k c
def fiE (v k:Int):List Fi→Int
 | []=>0
 | f :: l=>if gj f.topic=false then 10 else if nT v k f=false then 2 else fiE v k l
def cdE (v k:Int):List Int→Int
 | []=>0
 | c :: l=>if xF v k c=false then 2 else cdE v k l
def xY (v:Int) (p:Pk):Bool:=ir v p.kind&&eH v p
def sbE (v:Int) (p:Pk):Int:=
 if xY v p=false then 2 else if(aM p.kind p.props).2≠0 then(aM p.kind p.props).2
 else if fiE v p.kind p.filters≠0 then fiE v p.kind p.filters else cdE v p.kind p.codes
end Go.Proofs.YtpcleamaieaefaaGreatDoor
namespace Go.Proofs.YtpcleamaieaefaaGreatDoor
open Go.RowKit Go.Shelf
def vg:Ren:=⟨fun| 138=>276| 143=>277| 195=>322| 197=>323| 217=>325| 218=>324| 219=>279| 221=>215| 224=>320| 225=>321| 260=>339| 266=>340| 267=>326| 268=>275| 314=>341| n=>n,fun| 0=>0| 3=>3| 4=>4| 5=>5| 9=>9| 21=>21| 31=>65| 46=>98| 51=>95| 105=>257| 119=>283| 138=>285| 139=>286| 146=>275| n=>n,fun| 1=>0| 3=>1| 4=>2| n=>n⟩
theorem pF:Lays.n221 Tryz.prog vg where
 mixed:=by kernel_rfl
 f138:=Tryz.func276.trans (congrArg some (by kernel_rfl))
 f143:=Tryz.func277.trans (congrArg some (by kernel_rfl))
 f195:=Tryz.func322.trans (congrArg some (by kernel_rfl))
 f197:=Tryz.func323.trans (congrArg some (by kernel_rfl))
 f217:=Tryz.func325.trans (congrArg some (by kernel_rfl))
 f218:=Tryz.func324.trans (congrArg some (by kernel_rfl))
 f219:=Tryz.func279.trans (congrArg some (by kernel_rfl))
 f221:=Tryz.func215.trans (congrArg some (by kernel_rfl))
 f224:=Tryz.func320.trans (congrArg some (by kernel_rfl))
 f225:=Tryz.func321.trans (congrArg some (by kernel_rfl))
 f260:=Tryz.func339.trans (congrArg some (by kernel_rfl))
 f266:=Tryz.func340.trans (congrArg some (by kernel_rfl))
 f267:=Tryz.func326.trans (congrArg some (by kernel_rfl))
 f268:=Tryz.func275.trans (congrArg some (by kernel_rfl))
 f314:=Tryz.func341.trans (congrArg some (by kernel_rfl))
 t0:=Tryz.underlying0
 a0:=Tryz.isAgg0
 z0:=Tryz.sizeOf0
 v0:=Tryz.zeroValue0
 t3:=Tryz.underlying3
 a3:=Tryz.isAgg3
 z3:=Tryz.sizeOf3
 v3:=Tryz.zeroValue3
 t4:=Tryz.underlying4
 a4:=Tryz.isAgg4
 z4:=Tryz.sizeOf4
 v4:=Tryz.zeroValue4
 t5:=Tryz.underlying5
 a5:=Tryz.isAgg5
 z5:=Tryz.sizeOf5
 v5:=Tryz.zeroValue5
 t9:=Tryz.underlying9
 a9:=Tryz.isAgg9
 z9:=Tryz.sizeOf9
 v9:=Tryz.zeroValue9
 t21:=Tryz.underlying21
 a21:=Tryz.isAgg21
 z21:=Tryz.sizeOf21
 v21:=Tryz.zeroValue21
 t31:=Tryz.underlying65
 a31:=Tryz.isAgg65
 z31:=Tryz.sizeOf65
 v31:=Tryz.zeroValue65
 t46:=Tryz.underlying98
 a46:=Tryz.isAgg98
 z46:=Tryz.sizeOf98
 v46:=Tryz.zeroValue98
 t51:=Tryz.underlying95
 a51:=Tryz.isAgg95
 z51:=Tryz.sizeOf95
 v51:=Tryz.zeroValue95
 t105:=Tryz.underlying257
 a105:=Tryz.isAgg257
 z105:=Tryz.sizeOf257
 v105:=Tryz.zeroValue257
 t119:=Tryz.underlying283
 a119:=Tryz.isAgg283
 z119:=Tryz.sizeOf283
 t138:=Tryz.underlying285
 a138:=Tryz.isAgg285
 z138:=Tryz.sizeOf285
 v138:=Tryz.zeroValue285
 t139:=Tryz.underlying286
 a139:=Tryz.isAgg286
 z139:=Tryz.sizeOf286
 v139:=Tryz.zeroValue286
 t146:=Tryz.underlying275
 a146:=Tryz.isAgg275
 z146:=Tryz.sizeOf275
 v146:=Tryz.zeroValue275
 g1:=by kernel_rfl
 g3:=by kernel_rfl
 g4:=by kernel_rfl
theorem vl:(Tryz.prog.info? 9).map (fun i=>(i.zero,i.size,i.bytes))=some (some (.string ByteArray.empty),1,16):=by kernel_rfl
def sv (l:List ByteArray):List Value:=l.map Value.string
theorem AW (l:List ByteArray):(sv l).length=l.length:=by simp[sv]
theorem EB (x:ByteArray) (w:World):Calls Tryz.prog 277 #[.string x,.string ⟨#[47]⟩] w fun e w'=>e= .returned (.int .i64 (Lib.indexB x ⟨#[47]⟩))∧w'=w:=by
 have c:Calls Tryz.prog 277 #[.string x,.string ⟨#[47]⟩] w fun e w'=>e= .returned (.int .i64 (Lib.indexByte x.data.toList 47))∧w'=w:=Any.strings_Index_one {pF with} x 47 w;rw[←Lib.index_one]at c;exact c
theorem vo (x:ByteArray) (w:World):Calls Tryz.prog 279 #[.string x,.string ⟨#[47]⟩] w fun e w'=>e= .returned (.int .i64 (Lib.indexB x ⟨#[47]⟩))∧w'=w:=by
 have c:Calls Tryz.prog 279 #[.string x,.string ⟨#[47]⟩] w fun e w'=>e= .returned (.int .i64 (Lib.indexByte x.data.toList 47))∧w'=w:=Any.stringslite_Index_one {pF with} x 47 w;rw[←Lib.index_one]at c;exact c
theorem EN (x:ByteArray) (w:World):Calls Tryz.prog 276 #[.string x,.string ⟨#[47]⟩] w fun e w'=>e= .returned (.int .i64 (Lib.countB x ⟨#[47]⟩))∧w'=w:=by
 have c:Calls Tryz.prog 276 #[.string x,.string ⟨#[47]⟩] w fun e w'=>e= .returned (.int .i64 (Lib.countByte x.data.toList 47))∧w'=w:=Any.strings_Count_one {pF with} x 47 w;refine c.mono fun e w' ⟨he,hw⟩=>⟨?_,hw⟩;rw[he];show _=Ending.returned (Value.int .i64 ((Lib.count x.data.toList [47]:Nat):Int));rw[Lib.count_one];rfl
theorem zd (s:ByteArray) (w:World) (hs:s.size<4294967281):
  Calls Tryz.prog 158 #[.string s,.string ⟨#[47]⟩] w fun e w'=>e= .returned (.slice (some ⟨w.heap.size,0,none⟩) (lvs s).length (lvs s).length)∧w'=w.alloc (.cells (sv (lvs s)).toArray 9):=by
 have hle:=Lib.countB_le ⟨#[47]⟩ (by decide) s.size s (ac _);have c:Calls Tryz.prog 215 #[.string s,.string ⟨#[47]⟩,.int .i64 ((0:Nat):Int),.int .i64 (-1)] w _:=Any.strings_genSplit_core pF vl s ⟨#[47]⟩ 0 (-1) (Lib.countB s ⟨#[47]⟩+1) w hs (by decide) (ag _) (fun x c _=>EB x _) (EN s w) (by decide) (by decide) (by rw[if_pos (by decide)];omega);rw[Nat.add_sub_cancel]at c;have e2:Lib.cellsOf (Lib.splitB ⟨#[47]⟩ 0 (Lib.countB s ⟨#[47]⟩) s) (Lib.countB s ⟨#[47]⟩+1)=(sv (lvs s)).toArray:=by rw[←n7 s];exact Lib.cellsOf_full _
 rw[e2]at c;have e3:(Lib.splitB ⟨#[47]⟩ 0 (Lib.countB s ⟨#[47]⟩) s).length=(lvs s).length:=rfl;rw[e3,←n7 s]at c;clear hle e2 e3 hs;generalize lvs s=l at*
 go_enter Tryz.func158,Tryz.ntmps158
 go_wp2_with fail
 refine c.mono ?_;rintro e w1 ⟨rfl,rfl⟩
 go_wp2
 go_ret
 exact⟨rfl,rfl⟩
theorem vf (s:ByteArray) (w:World) (hs:s.size<4294967281):
  Calls Tryz.prog 108 #[.string s] w fun e w'=>e= .returned (.slice (some ⟨w.heap.size,0,none⟩) (lvs s).length (lvs s).length)∧w'=w.alloc (.cells (sv (lvs s)).toArray 9):=by
 have c:=zd s w hs;generalize lvs s=l at*
 go_enter Tryz.func108,Tryz.ntmps108
 go_wp2_with fail
 refine c.mono ?_;rintro e w1 ⟨rfl,rfl⟩
 go_wp2
 go_ret
 exact⟨rfl,rfl⟩
theorem tS (x:ByteArray) (w:World):
  Calls Tryz.prog 156 #[.string x] w fun e w'=>e= .returned (.bool (mi x))∧w=w':=by
 have HW:Hid (mi x=((x.toList==[43]) || (x.toList==[35]))):=aa rfl
 go_enter Tryz.func156,Tryz.ntmps156
 cases h1:(x.toList==[43])
 ·have HX:Hid (mi x=(x.toList==[35])):=aa (by rw[HW.out,h1,nB])
  go_wp2
  go_ret
  exact⟨by rw[HX.out];rfl,rfl⟩
 ·have HX:Hid (mi x=true):=aa (by rw[HW.out,h1,Bool.true_or])
  go_wp2
  go_ret
  exact⟨by rw[HX.out];rfl,rfl⟩
theorem oc {l:List ByteArray} {k:Nat} {x:ByteArray} (hx:l[k]? =some x) (h:j8 x (decide (k+1=l.length))=true) (ha:∀(j:Nat) (y:ByteArray),j<k→l[j]? =some y→j8 y (decide (j+1=l.length))=true):
  ∀(j:Nat) (y:ByteArray),j<k+1→l[j]? =some y→j8 y (decide (j+1=l.length))=true:=by
 intro j y hj hy;rcases dx.1 hj with h1| rfl
 ·exact ha j y h1 hy
 ·rw[hx]at hy;obtain rfl:=Option.some.inj hy;exact h
theorem Cu {l:List ByteArray} (ha:∀(j:Nat) (y:ByteArray),j<l.length→l[j]? =some y→j8 y (decide (j+1=l.length))=true):jk l=true:=
 Ct fun i x hx=>ha i x (cR.1 hx).1 hx
theorem Gd {w:World} {B n:Nat} {A:Option Addr} {l:List ByteArray} (h:Rd w B 1 A n (sv l)) {i:Nat} (hi:i<n):∃b o x,A=some ⟨b,o,none⟩∧b<B∧l[i]? =some x∧w.cell? ⟨b,o+i,none⟩=some (.string x):=by
 obtain⟨b,o,u,e,hb,hu,hc⟩:=h.at1 hi;have hl:i<l.length:=by have:=h.len;rw[AW]at this;omega
 refine⟨b,o,l[i],e,hb,List.getElem?_eq_getElem hl,?_⟩;have:u= .string l[i]:=by simpa [sv,hl]using hu.symm
 rw[←this];exact hc
theorem wW (A:Option Addr) (n c:Nat) (l:List ByteArray) (w:World) (hn:l.length=n) (h:Rd w w.heap.size 1 A n (sv l)) (hsz:∀x∈l,x.size≤65535) (hn2:n≤4611686018427387904):
  Calls Tryz.prog 107 #[.slice A n c] w fun e w'=>e= .returned (.bool (jk l))∧Below w.heap.size w w':=by
 have E1:=aa hn;have HL:=aa h;have HS:=aa hsz
 clear hn h hsz
 go_enter Tryz.func107,Tryz.ntmps107
 go_wp2
 go_loopw [8] (fun i wr=>∃k:Nat,k≤n∧i= .int .i64 k∧(∀(j:Nat) (y:ByteArray),j<k→l[j]? =some y→j8 y (decide (j+1=l.length))=true)∧Below w.heap.size w wr) (fun i _=>n- (intOf i).toNat)
 case atStart=>exact⟨0,by omega,rfl,fun j x hj=>by omega,aq _ _⟩
 case round=>
  obtain⟨k,hk,rfl,hall,hbel⟩:=hrel;have HA:=aa hall;have HB:=aa hbel;clear hall
  by_cases hlt:k<n
  ·obtain⟨b,o,x,rfl,hb,hx,hc⟩:=Gd (HL.out.below hbel) hlt;have HX:=aa hx;have HXS:=aa (HS.out x (iL hx));obtain⟨d,hd⟩:∃d,decide (k+1=l.length)=d:=⟨_,rfl⟩;have hlast:((k:Int)+1==(n:Int))=d:=by
    rw[←hd,E1.out,eG,aK,cH];omega
   have HD:=aa hd;have b1:(0:Int)≤(k:Int):=by omega
   have b2:(k:Int)<(n:Int):=by omega
   have HV:Hid (j8 x d= !(((x.toList==[35])&& !d) || (!mi x&&mg x))):=aa rfl;clear hx hd hbel;cases h35:(x.toList==[35])
   ·have HV1:Hid (j8 x d= !(!mi x&&mg x)):=aa (by rw[HV.out,h35];rfl)
    go_wp2_with fail
    refine(tS x _).mono ?_;rintro e w1 ⟨rfl,rfl⟩;cases hw:mi x
    ·have HV2:Hid (j8 x d= !mg x):=aa (by rw[HV1.out,hw];rfl);clear hw
     go_wp2_with fail
     refine(kW x _ HXS.out).mono ?_;rintro e w2 ⟨rfl,hb2⟩;have HB2:=aa (HB.out.trans (hb2.mono HB.out.size));clear hb2
     cases ha:mg x
     ·have HV3:Hid (j8 x (decide (k+1=l.length))=true):=aa (by rw[HD.out,HV2.out,ha];rfl);clear ha
      go_wp2
      go_roundw
      case rel=>exact⟨k+1,by omega,by go_num,oc HX.out HV3.out HA.out,HB2.out⟩
      case measure=>simp[intOf];omega
     ·have HV3:Hid (jk l=false):=aa (yA HX.out (by rw[HD.out,HV2.out,ha];rfl));clear ha
      go_wp2
      go_ret
      exact⟨by rw[HV3.out];rfl,HB2.out⟩
    ·have HV3:Hid (j8 x (decide (k+1=l.length))=true):=aa (by rw[HD.out,HV1.out,hw];rfl);clear hw
     go_wp2
     go_roundw
     case rel=>exact⟨k+1,by omega,by go_num,oc HX.out HV3.out HA.out,HB.out⟩
     case measure=>simp[intOf];omega
   ·cases d
    ·have HV3:Hid (jk l=false):=aa (yA HX.out (by rw[HD.out,HV.out,h35];rfl))
     go_wp2
     go_ret
     exact⟨by rw[HV3.out];rfl,HB.out⟩
    ·have HWX:Hid (mi x=true):=aa (by unfold mi;rw[h35,Bool.or_true]);have HV3:Hid (j8 x (decide (k+1=l.length))=true):=aa (by rw[HD.out,HV.out,HWX.out,Bool.not_true,ru];rfl)
     go_wp2_with fail
     refine(tS x _).mono ?_;rintro e w1 ⟨rfl,rfl⟩;rw[HWX.out]
     go_wp2
     go_roundw
     case rel=>exact⟨k+1,by omega,by go_num,oc HX.out HV3.out HA.out,HB.out⟩
     case measure=>simp[intOf];omega
  ·obtain rfl:k=n:=by omega
   have HV3:Hid (jk l=true):=aa (Cu (fun j y hj=>HA.out j y (by have:=E1.out;omega)))
   go_wp2
   go_ret
   exact⟨by rw[HV3.out];rfl,hbel⟩
theorem Ft (w:World) (l:List ByteArray):Rd (w.alloc (.cells (sv l).toArray 9)) (w.alloc (.cells (sv l).toArray 9)).heap.size 1 (some ⟨w.heap.size,0,none⟩) l.length (sv l):=by
 have h:=Rd.fresh w (sv l).toArray 9;simp only[ey]at h⊢
 simpa [AW]using h
theorem qB (s:ByteArray) (w:World) (hs:s.size≤4611686018427387904):
  Calls Tryz.prog 66 #[.string s] w fun e w'=>e= .returned (.bool (gj s))∧Below w.heap.size w w':=by
 have HS:=aa hs;have HF:Hid (gj s=(jY s&&jk (lvs s))):=aa rfl;clear hs
 go_enter Tryz.func66,Tryz.ntmps66
 go_wp2_with fail
 refine(rH s _ HS.out).mono ?_;rintro e w1 ⟨rfl,hb⟩;have HB:=aa hb;clear hb
 cases ht:jY s
 ·have HX:Hid (gj s=false):=aa (by rw[HF.out,ht];rfl);clear ht
  go_wp2
  go_ret
  exact⟨by rw[HX.out];rfl,HB.out⟩
 have HX:Hid (gj s=jk (lvs s)):=aa (by rw[HF.out,ht,aL]);have HV:Hid (s.size≤65535):=aa (gL (by unfold jY at ht;rw[eh]at ht;exact ht.2));clear ht HF;have HLS:Hid (∀x∈lvs s,x.size≤65535):=aa fun x hx=>aC (Cl s x hx) HV.out;have HLL:Hid ((lvs s).length≤4611686018427387904):=aa (by have:=Eo s;have:=HV.out;omega)
 go_wp2_with fail
 refine(vf s _ (by have:=HV.out;omega)).mono ?_;rintro e w2 ⟨rfl,rfl⟩;generalize lvs s=l at*;have HR:=aa (Ft w1 l);have HB2:=aa (HB.out.alloc HB.out.size (.cells (sv l).toArray 9));generalize w1.alloc (.cells (sv l).toArray 9)=W at*;generalize w1.heap.size=g at*
 go_wp2_with fail
 refine(wW _ _ _ l _ rfl HR.out HLS.out HLL.out).mono ?_;rintro e w3 ⟨rfl,hb⟩;have HB3:=aa (HB2.out.trans (hb.mono HB2.out.size));clear hb
 go_wp2
 go_ret
 exact⟨by rw[HX.out];rfl,HB3.out⟩
theorem sg (s:ByteArray):gV s=(decide (7≤s.size)&&((s.extract 0 7).toList==[36,115,104,97,114,101,47])):=by
 rw[Gc,ix];unfold gV
 by_cases h:7≤s.size
 ·rw[au h,aL,eG,List.isPrefixOf_iff_prefix,aK,List.prefix_iff_eq_take];exact eq_comm
 ·rw[ah h,bj,Bool.eq_false_iff];intro hp;have:=(List.isPrefixOf_iff_prefix.1 hp).length_le;rw[aN]at this;simp[tt]at this;omega
theorem rl (s:ByteArray) (w:World) (hs:s.size≤4611686018427387904):
  Calls Tryz.prog 278 #[.string s,.string ⟨#[36,115,104,97,114,101,47]⟩] w fun e w'=>e= .returned (.bool (gV s))∧w=w':=by
 by_cases h:7≤s.size
 ·have h':(7:Int)≤(s.size:Int):=by omega
  have HF:Hid (gV s=((s.extract 0 7).toList==[36,115,104,97,114,101,47])):=aa (by rw[sg,au h,aL]);clear h
  go_enter Tryz.func278,Tryz.ntmps278
  go_wp2
  go_ret
  exact⟨by rw[HF.out];rfl,rfl⟩
 ·have h':¬(7:Int)≤(s.size:Int):=by omega
  have HF:Hid (gV s=false):=aa (by rw[sg,ah h,bj]);clear h
  go_enter Tryz.func278,Tryz.ntmps278
  go_wp2
  go_ret
  exact⟨by rw[HF.out];rfl,rfl⟩
theorem xh {s:ByteArray} (h:gV s=true):7≤s.size:=(vx h).1
theorem qF (s:ByteArray) (w:World) (hs:s.size≤4611686018427387904):
  Calls Tryz.prog 216 #[.string s,.string ⟨#[36,115,104,97,114,101,47]⟩] w fun e w'=>e= .returned (.tuple #[.string (kY s),.bool (gV s)])∧w=w':=by
 have HS:=aa hs;clear hs
 go_enter Tryz.func216,Tryz.ntmps216
 go_wp2_with fail
 refine(rl s _ HS.out).mono ?_;rintro e w1 ⟨rfl,rfl⟩;cases hf:gV s
 ·have HFB:=aa hf;have HX:Hid (kY s=s):=aa (by unfold kY;rw[hf];rfl);clear hf
  go_wp2
  go_ret2
  exact⟨by rw[HX.out,HFB.out];rfl,rfl⟩
 ·have HFB:=aa hf;have HX:Hid (kY s=s.extract 7 s.size):=aa (by unfold kY;rw[hf];rfl);have h7:(7:Int)≤(s.size:Int):=by have:=xh hf;omega
  clear hf
  go_wp2
  go_ret2
  exact⟨by rw[HX.out,HFB.out];rfl,rfl⟩
theorem rq (s:ByteArray) (w:World) (hs:s.size≤4611686018427387904):
  Calls Tryz.prog 159 #[.string s,.string ⟨#[36,115,104,97,114,101,47]⟩] w fun e w'=>e= .returned (.tuple #[.string (kY s),.bool (gV s)])∧w=w':=by
 have HS:=aa hs;clear hs
 go_enter Tryz.func159,Tryz.ntmps159
 go_wp2_with fail
 refine(qF s _ HS.out).mono ?_;rintro e w1 ⟨rfl,rfl⟩
 go_wp2
 go_ret2
 exact⟨rfl,rfl⟩
theorem De (s:ByteArray) (w:World) (hs:s.size≤4611686018427387904):
  Calls Tryz.prog 217 #[.string s,.string ⟨#[47]⟩] w fun e w'=>e= .returned (.tuple #[.string (ky s).1,.string (ky s).2.1,.bool (ky s).2.2])∧Below w.heap.size w w':=by
 rcases Lib.indexB_cases s ⟨#[47]⟩with hix| ⟨i,hix,hroom⟩
 ·have HX:Hid (ky s=(s,⟨#[]⟩,false)):=aa (by unfold ky;rw[if_pos hix]);have HI:=aa hix;clear hix
  go_enter Tryz.func217,Tryz.ntmps217
  go_wp2_with fail
  refine(vo s _).mono ?_;rintro e w1 ⟨rfl,rfl⟩;rw[HI.out]
  go_wp2
  go_ret3
  exact⟨by rw[HX.out];rfl,aq _ _⟩
 ·have HX:Hid (ky s=(s.extract 0 i,s.extract (i+1) s.size,true)):=aa (by
   unfold ky;rw[ae (by omega),hix];rfl)
  have HI:=aa hix;have hz:(⟨#[47]⟩:ByteArray).size=1:=rfl;rw[hz]at hroom;have c1:(0:Int)≤(i:Int):=by omega
  have c2:(i:Int)≤(s.size:Int):=by omega
  have c3:(0:Int)≤(i:Int)+1:=by omega
  have c4:(i:Int)+1≤(s.size:Int):=by omega
  clear hix hz hroom
  go_enter Tryz.func217,Tryz.ntmps217
  go_wp2_with fail
  refine(vo s _).mono ?_;rintro e w1 ⟨rfl,rfl⟩;rw[HI.out]
  go_wp2
  go_region
  go_wp2
  go_ret3
  exact⟨by rw[HX.out];rfl,aV (aq _ _) _⟩
theorem EL (s:ByteArray) (w:World) (hs:s.size≤4611686018427387904):
  Calls Tryz.prog 160 #[.string s,.string ⟨#[47]⟩] w fun e w'=>e= .returned (.tuple #[.string (ky s).1,.string (ky s).2.1,.bool (ky s).2.2])∧Below w.heap.size w w':=by
 have HS:=aa hs;clear hs
 go_enter Tryz.func160,Tryz.ntmps160
 go_wp2_with fail
 refine(De s _ HS.out).mono ?_;rintro e w1 ⟨rfl,hb⟩;have HB:=aa hb;clear hb
 go_wp2
 go_ret3
 exact⟨rfl,HB.out⟩
def AK (s:ByteArray) (w:World) (e:Ending) (w':World):Prop:=(∃a b:ByteArray,e= .returned (.tuple #[.string a,.string b,.bool (fy s)]))∧Below w.heap.size w w'
theorem wo (s:ByteArray) (w:World) (hs:s.size≤4611686018427387904):
  Calls Tryz.prog 110 #[.string s] w (AK s w):=by
 have HS:=aa hs;have HZ:=aa (Bd s);have HC:=aa (Dc (kY s));have HE:Hid (fy s=(gV s&&((ky (kY s)).2.2&&(bN s&&(fp (ky (kY s)).1&&gj (ky (kY s)).2.1))))):=aa rfl;clear hs
 go_enter Tryz.func110,Tryz.ntmps110
 go_wp2_with fail
 refine(rq s _ HS.out).mono ?_;rintro e w1 ⟨rfl,rfl⟩
 go_wp2_with fail
 refine(EL (kY s) _ (by have:=HS.out;have:=HZ.out;omega)).mono ?_;rintro e w1 ⟨rfl,hb⟩;have HB:=aa hb;clear hb
 obtain⟨R,hR⟩:∃R,ky (kY s)=R:=⟨_,rfl⟩;rw[hR]at HC HE⊢;clear hR;generalize kY s=r at*;obtain⟨x,y,z⟩:=R;simp only at HC HE⊢;cases hf:gV s
 ·have HX:Hid (fy s=false):=aa (by rw[HE.out,hf];rfl);clear hf
  go_wp2
  go_ret3
  exact⟨⟨_,_,by rw[HX.out];rfl⟩,HB.out⟩
 have HE1:Hid (fy s=(z&&(bN s&&(fp x&&gj y)))):=aa (by rw[HE.out,hf,aL]);clear hf;cases z
 ·have HX:Hid (fy s=false):=aa (by rw[HE1.out];rfl)
  go_wp2
  go_ret3
  exact⟨⟨_,_,by rw[HX.out];rfl⟩,HB.out⟩
 go_wp2_with fail
 refine(fk s _ HS.out).mono ?_;rintro e w2 ⟨rfl,hb⟩;have HB2:=aa (HB.out.trans (hb.mono HB.out.size));clear hb
 cases hv:bN s
 ·have HX:Hid (fy s=false):=aa (by rw[HE1.out,hv];rfl);clear hv
  go_wp2
  go_ret3
  exact⟨⟨_,_,by rw[HX.out];rfl⟩,HB2.out⟩
 have HE2:Hid (fy s=(fp x&&gj y)):=aa (by rw[HE1.out,hv,aL,aL]);clear hv
 go_wp2_with fail
 refine(lw x _ (by have:=HS.out;have:=HZ.out;have:=HC.out.1;omega)).mono ?_;rintro e w3 ⟨rfl,hb⟩;have HB3:=aa (HB2.out.trans (hb.mono HB2.out.size));clear hb
 cases hn:fp x
 ·have HX:Hid (fy s=false):=aa (by rw[HE2.out,hn];rfl);clear hn
  go_wp2
  go_ret3
  exact⟨⟨_,_,by rw[HX.out];rfl⟩,HB3.out⟩
 have HE3:Hid (fy s=gj y):=aa (by rw[HE2.out,hn,aL]);clear hn
 go_wp2_with fail
 refine(qB y _ (by have:=HS.out;have:=HZ.out;have:=HC.out.2;omega)).mono ?_;rintro e w4 ⟨rfl,hb⟩;have HB4:=aa (HB3.out.trans (hb.mono HB3.out.size));clear hb
 cases hn:gj y
 ·have HX:Hid (fy s=false):=aa (by rw[HE3.out,hn]);clear hn
  go_wp2
  go_ret3
  exact⟨⟨_,_,by rw[HX.out];rfl⟩,HB4.out⟩
 have HX:Hid (fy s=true):=aa (by rw[HE3.out,hn]);clear hn
 go_wp2
 go_ret3
 exact⟨⟨_,_,by rw[HX.out];rfl⟩,HB4.out⟩
end Go.Proofs.YtpcleamaieaefaaGreatDoor
namespace Go.Proofs.YtpcleamaieaefaaGreatDoor
open Go.RowKit
attribute [local go_sem ↓] bD bF bH bI bu
attribute [local go_sem] bc aD bh bg bK bJ bd aY be aO ax cI dC dB dt dj di dA dr dp dn bW co bO bZ bX cz cy cw cu ct cC cn bS bP bR
attribute [local go_sem ↓high] bu sD sE
attribute [local go_sem ↓] wh
attribute [local go_sem] Cv BD mX uw pU sO ta yp s9 yo sZ yn sV ym sU yl sT yk sS yj sR yi sQ yh sP yg pC uI pB uH pA uG py uF pu uE pr uC pq uB pp uA po uz pm uy pj ux sY pX sX pW sW pV
theorem oI (v k:Int) (w:World):Calls Tryz.prog 49 #[.int .i64 v,.int .i64 k] w fun e w'=>e= .returned (.bool (ir v k))∧w=w':=by
 go_enter Tryz.func49,Tryz.ntmps49
 go_wp2
 all_goals
  go_ret
  refine⟨eT ?_,rfl⟩;unfold ir
  by_cases h4:v=4<;>by_cases h5:v=5<;>simp_all<;>omega
theorem nK (k:Int) (w:World):Calls Tryz.prog 62 #[.int .i64 k] w fun e w'=>e= .returned (.bool (jm k))∧w=w':=by
 go_enter Tryz.func62,Tryz.ntmps62
 go_wp2
 all_goals
  go_ret
  refine⟨eT ?_,rfl⟩;unfold jm
  by_cases h4:k=8<;>by_cases h5:k=10<;>simp_all
theorem zi (v k:Int) (w:World):Calls Tryz.prog 63 #[.int .i64 v,.int .i64 k] w fun e w'=>e= .returned (.bool (pP v k))∧w=w':=by
 go_enter Tryz.func63,Tryz.ntmps63
 go_wp2
 all_goals
  go_ret
  refine⟨eT ?_,rfl⟩;unfold pP
  by_cases h4:k=11<;>by_cases h5:v=4<;>simp_all
theorem nJ (n:Int) (w:World):Calls Tryz.prog 109 #[.int .i64 n] w fun e w'=>e= .returned (.bool (jZ n))∧w=w':=by
 go_enter Tryz.func109,Tryz.ntmps109
 go_wp2
 all_goals
  go_ret
  refine⟨eT ?_,rfl⟩;unfold jZ
  by_cases h4:0≤n<;>by_cases h5:n<3<;>simp_all<;>omega
theorem Dx (v k c:Int) (w:World):Calls Tryz.prog 68 #[.int .i64 v,.int .i64 k,.int .i64 c] w fun e w'=>e= .returned (.bool (xF v k c))∧Below w.heap.size w w':=by
 by_cases h4:v=4
 ·have e4:(v==4)=true:=aK.2 h4;have HX:Hid (xF v k c=tq c):=aa (if_pos h4);clear h4
  go_enter Tryz.func68,Tryz.ntmps68
  go_wp2_with fail
  refine(Af c _).mono ?_;rintro e w1 ⟨rfl,hb⟩;have HB:=aa hb;clear hb
  go_wp2
  go_ret
  exact⟨by rw[HX.out];rfl,by first| exact HB.out| exact HB.out▸aq _ _⟩
 ·have e4:(v==4)=false:=ar.2 h4;have HX:Hid (xF v k c=may k c):=aa (ae h4);clear h4
  go_enter Tryz.func68,Tryz.ntmps68
  go_wp2_with fail
  refine(m7 k c _).mono ?_;rintro e w1 ⟨rfl,hb⟩;have HB:=aa hb;clear hb
  go_wp2
  go_ret
  exact⟨by rw[HX.out];rfl,by first| exact HB.out| exact HB.out▸aq _ _⟩
def sbH (v:Int) (p:Pk) (h:Hs):Hs:=
 if jm p.kind=true then {hs0 with props:=h.props,filters:=h.filters}else if pP v p.kind=true then {hs0 with props:=h.props}else {hs0 with props:=h.props,codes:=h.codes}
theorem DN (v:Int) {p:Pk} (x:gz p):gz (sbQ v p):=by
 unfold sbQ
 split
 ·exact⟨ag _,ag _,x.2.2.1,x.2.2.2⟩
 ·split
  ·exact⟨ag _,ag _,ag _,x.2.2.2⟩
  ·exact⟨ag _,x.2.1,ag _,x.2.2.2⟩
theorem Fp (v:Int) {w:World} {B:Nat} {p:Pk} {h:Hs} (x:PkIn w B p h):PkIn w B (sbQ v p) (sbH v p h):=by
 unfold sbQ sbH
 split
 ·exact⟨Rd.nil _ _ _ _,Rd.nil _ _ _ _,x.filters,x.props,ag _,ag _,x.caps.2.2.1,x.caps.2.2.2⟩
 ·split
  ·exact⟨Rd.nil _ _ _ _,Rd.nil _ _ _ _,Rd.nil _ _ _ _,x.props,ag _,ag _,ag _,x.caps.2.2.2⟩
  ·exact⟨Rd.nil _ _ _ _,x.codes,Rd.nil _ _ _ _,x.props,ag _,x.caps.2.1,ag _,x.caps.2.2.2⟩
theorem wu (k i:Int) (l:List Pr) (A:Option Addr) (n:Nat) (w:World):(qP #[(0,.int .i64 k),(4,.int .i64 i),(20,.slice A l.length n)]).run Tryz.prog w= .ok (pkV {pk0 with kind:=k,id:=i,props:=l} {hs0 with props:=⟨A,n⟩}) w:=by kernel_rfl
theorem sK (v:Int) (p:Pk) (h:Hs) (Q:Pk) (H:Hs) (x:World) (hq:sbQ v p=Q) (hh:sbH v p h=H) (hi:PkIn x x.heap.size p h) (hn:gz p):
  Calls Tryz.prog 105 #[pkV p h,pkV Q H] x fun e y=>e= .returned (.bool (decide (p=sbQ v p)))∧Below x.heap.size x y:=by
 subst hq hh;exact jE p (sbQ v p) h (sbH v p h) x hi (Fp v hi) hn (DN v hn)
theorem sJ (v:Int) (p:Pk) (h:Hs) (w:World) (ip:PkIn w w.heap.size p h) (ok:PkOk p):
  Calls Tryz.prog 64 #[.int .i64 v,pkV p h] w fun e w'=>e= .returned (.bool (eH v p))∧Below w.heap.size w w':=by
 have OK:=aa ok;have IP:=aa ip;have HE:Hid (eH v p=(!(decide (p.id<1) || (decide (65535<p.id) || (decide (v=4)&&decide (0<p.props.length))))&&(lj v p&&decide (p=sbQ v p)))):=aa rfl;have HH:Hid (lj v p=if jm p.kind=true then decide (0<p.filters.length)else if pP v p.kind=true then true else decide (0<p.codes.length)):=aa rfl;have HB0:=aa ((aq w.heap.size w).alloc (ac _) (.cells (pkC p h) PkT));have B1:=Bk.fresh w PkT (pkC p h);have k0:=(B1.cell 0).trans (cI _ _);have k4:=(B1.cell 4).trans (dj _ _);have k18:=(B1.cell 22).trans (bS _ _);have k19:=(B1.cell 23).trans (bP _ _);have k20:=(B1.cell 24).trans (bR _ _)
 obtain⟨W,hW,hst⟩:=mF w p {pk0 with kind:=p.kind,id:=p.id,props:=p.props} h {hs0 with props:=⟨h.props.a,h.props.c⟩};have HW:=aa hW;have hlt:=hW.lt;have j0:=fun cs=>(hW.bk_pw cs).cell;have hl0:∀cs,(kZ (.pointer (some ⟨w.heap.size,0,none⟩))).run Tryz.prog (pw W (w.heap.size+1) cs)= .ok (pkV p h) (pw W (w.heap.size+1) cs):=fun cs=>cf (hW.bk_pw cs);have hbd:=wu p.kind p.id p.props h.props.a h.props.c;have HQI:Hid (∀x,Below w.heap.size w x→PkIn x x.heap.size p h):=aa fun x hx=>(IP.out.below hx).wider hx.size;clear ip ok hW B1
 go_enter Tryz.func64,Tryz.ntmps64
 by_cases h1:p.id<1
 ·have HX:Hid (eH v p=false):=aa (by rw[HE.out,au h1];rfl)
  go_wp2
  go_ret
  exact⟨by rw[HX.out];rfl,HB0.out⟩
 by_cases h2:65535<p.id
 ·have HX:Hid (eH v p=false):=aa (by rw[HE.out,au h2,Bool.true_or,Bool.or_true];rfl)
  go_wp2
  go_ret
  exact⟨by rw[HX.out];rfl,HB0.out⟩
 have HE1:=HE.out;rw[ah h1,ah h2,nB,nB]at HE1
 replace HE1:=aa HE1
 have key:∀(_:decide (v=4)=false∨decide (0<p.props.length)=false),eH v p=(lj v p&&decide (p=sbQ v p)):=by
  intro hh;rw[HE1.out];rcases hh with hh| hh
  ·rw[hh,bj,Bool.not_false,aL]
  ·rw[hh,ru,Bool.not_false,aL]
 have KEY:=aa key;clear key HE
 by_cases h4:v=4∧0<p.props.length
 ·have HX:Hid (eH v p=false):=aa (by rw[HE1.out,au h4.1,au h4.2];rfl);have e4:(v==4)=true:=aK.2 h4.1;have d4:(0:Int)<(p.props.length:Int):=by have:=h4.2;omega
  clear h4
  go_wp2
  go_ret
  exact⟨by rw[HX.out];rfl,HB0.out⟩
 have HE2:Hid (eH v p=(lj v p&&decide (p=sbQ v p))):=aa (KEY.out (by
  by_cases a:v=4
  ·exact .inr (ah fun b=>h4 ⟨a,b⟩)
  ·exact .inl (ah a)))
 have tail:∀(b4:Bool) (_:(v==4)=b4) (_:b4=true→(p.props.length:Int)≤0),True:=fun _ _ _=>trivial;clear tail KEY HE1;have main:(v==4)=false∨((v==4)=true∧¬(0:Int)<(p.props.length:Int)):=by
  by_cases a:v=4
  ·exact .inr ⟨aK.2 a,fun b=>h4 ⟨a,by omega⟩⟩
  ·exact .inl (ar.2 a)
 clear h4;have HAS:=aa (nK p.kind);rcases main with e4| ⟨e4,d4⟩
 all_goals
  go_wp2_with fail
  refine(nK p.kind _).mono ?_;rintro e w1 ⟨rfl,hw1⟩;subst hw1;cases ha:jm p.kind;rotate_left
  ·have HHX:Hid (lj v p=decide (0<p.filters.length)):=aa (by rw[HH.out,if_pos ha]);have HQ:Hid (sbQ v p= {pk0 with kind:=p.kind,id:=p.id,props:=p.props,filters:=p.filters}):=aa (by unfold sbQ;rw[if_pos ha]);have HHS:Hid (sbH v p h= {hs0 with props:=h.props,filters:=h.filters}):=aa (by unfold sbH;rw[if_pos ha]);clear ha
   by_cases hn:0<p.filters.length
   ·have d5:(0:Int)<(p.filters.length:Int):=by omega
    have HX:Hid (eH v p=decide (p=sbQ v p)):=aa (by rw[HE2.out,HHX.out,au hn,aL]);clear hn
    go_wp2_with fail
    refine(sK v p h _ _ _ (HQ.out.trans rfl) (HHS.out.trans rfl) (HQI.out _ (HW.out.kept _)) OK.out.len).mono ?_;rintro e w1 ⟨rfl,hb⟩;have HB:=aa ((HW.out.kept _).trans (hb.mono (HW.out.kept _).size));clear hb
    go_wp2
    go_ret
    exact⟨by rw[HX.out];rfl,HB.out⟩
   ·have d5:¬(0:Int)<(p.filters.length:Int):=by omega
    have HX:Hid (eH v p=false):=aa (by rw[HE2.out,HHX.out,ah hn,bj]);clear hn
    go_wp2
    go_ret
    exact⟨by rw[HX.out];rfl,HW.out.kept _⟩
  ·go_wp2_with fail
   refine(zi v p.kind _).mono ?_;rintro e w1 ⟨rfl,hw1⟩;subst hw1;cases hsil:pP v p.kind;rotate_left
   ·have HHX:Hid (lj v p=true):=aa (by rw[HH.out,ae (by rw[ha];decide),if_pos hsil]);have HQ:Hid (sbQ v p= {pk0 with kind:=p.kind,id:=p.id,props:=p.props}):=aa (by unfold sbQ;rw[ae (by rw[ha];decide),if_pos hsil]);have HHS:Hid (sbH v p h= {hs0 with props:=h.props}):=aa (by unfold sbH;rw[ae (by rw[ha];decide),if_pos hsil]);have HX:Hid (eH v p=decide (p=sbQ v p)):=aa (by rw[HE2.out,HHX.out,aL]);clear ha hsil
    go_wp2_with fail
    refine(sK v p h _ _ _ (HQ.out.trans rfl) (HHS.out.trans rfl) (HQI.out _ (HW.out.kept _)) OK.out.len).mono ?_;rintro e w1 ⟨rfl,hb⟩;have HB:=aa ((HW.out.kept _).trans (hb.mono (HW.out.kept _).size));clear hb
    go_wp2
    go_ret
    exact⟨by rw[HX.out];rfl,HB.out⟩
   ·have HHX:Hid (lj v p=decide (0<p.codes.length)):=aa (by rw[HH.out,ae (by rw[ha];decide),ae (by rw[hsil];decide)]);have HQ:Hid (sbQ v p= {pk0 with kind:=p.kind,id:=p.id,props:=p.props,codes:=p.codes}):=aa (by unfold sbQ;rw[ae (by rw[ha];decide),ae (by rw[hsil];decide)]);have HHS:Hid (sbH v p h= {hs0 with props:=h.props,codes:=h.codes}):=aa (by unfold sbH;rw[ae (by rw[ha];decide),ae (by rw[hsil];decide)]);clear ha hsil
    by_cases hn:0<p.codes.length
    ·have d5:(0:Int)<(p.codes.length:Int):=by omega
     have HX:Hid (eH v p=decide (p=sbQ v p)):=aa (by rw[HE2.out,HHX.out,au hn,aL]);clear hn
     go_wp2_with fail
     refine(sK v p h _ _ _ (HQ.out.trans rfl) (HHS.out.trans rfl) (HQI.out _ (HW.out.kept _)) OK.out.len).mono ?_;rintro e w1 ⟨rfl,hb⟩;have HB:=aa ((HW.out.kept _).trans (hb.mono (HW.out.kept _).size));clear hb
     go_wp2
     go_ret
     exact⟨by rw[HX.out];rfl,HB.out⟩
    ·have d5:¬(0:Int)<(p.codes.length:Int):=by omega
     have HX:Hid (eH v p=false):=aa (by rw[HE2.out,HHX.out,ah hn,bj]);clear hn
     go_wp2
     go_ret
     exact⟨by rw[HX.out];rfl,HW.out.kept _⟩
theorem BT (v k:Int) (f:Fi) (w:World) (hs:f.topic.size≤4611686018427387904):
  Calls Tryz.prog 67 #[.int .i64 v,.int .i64 k,.agg #[.string f.topic,.int .i64 f.qos,.bool f.noLocal,.bool f.asPub,.int .i64 f.handling]] w fun e w'=>e= .returned (.bool (nT v k f))∧Below w.heap.size w w':=by
 have HS:=aa hs;have HB0:=aa ((aq w.heap.size w).alloc (ac _) (.cells #[.string f.topic,.int .i64 f.qos,.bool f.noLocal,.bool f.asPub,.int .i64 f.handling] 32));have HK0:=aa (Bk.fresh w 32 #[.string f.topic,.int .i64 f.qos,.bool f.noLocal,.bool f.asPub,.int .i64 f.handling]);have HE:Hid (nT v k f=if k=10 then l9 f&&decide (f.qos=0)else if v=4 then l9 f&&jZ f.qos else jZ f.qos&&(jZ f.handling&& !(fy f.topic&&f.noLocal))):=aa rfl;have hgt:=kP;have hne:=fun W=>mJ f ⟨f.topic,f.qos,false,false,0⟩ W;have HP:Hid (l9 f=decide (f=⟨f.topic,f.qos,false,false,0⟩)):=aa rfl;rw[←HP.out]at hne;clear HP hs;generalize l9 f=pl at*
 go_enter Tryz.func67,Tryz.ntmps67
 by_cases hk:k=10
 ·have ek:(k==10)=true:=aK.2 hk;have HE1:Hid (nT v k f=(pl&&(f.qos==0))):=aa (by rw[HE.out,if_pos hk];rfl);clear hk;cases pl
  ·go_wp2
   go_ret
   exact⟨by rw[HE1.out];rfl,HB0.out⟩
  ·go_wp2
   go_ret
   exact⟨by rw[HE1.out];rfl,HB0.out⟩
 have ek:(k==10)=false:=ar.2 hk
 by_cases h4:v=4
 ·have e4:(v==4)=true:=aK.2 h4;have HE1:Hid (nT v k f=(pl&&jZ f.qos)):=aa (by rw[HE.out,ae hk,if_pos h4]);clear hk h4;cases pl
  ·go_wp2
   go_ret
   exact⟨by rw[HE1.out];rfl,HB0.out⟩
  ·go_wp2_with fail
   refine(nJ f.qos _).mono ?_;rintro e w1 ⟨rfl,hw1⟩;subst hw1
   go_wp2
   go_ret
   exact⟨by rw[HE1.out];rfl,HB0.out⟩
 have e4:(v==4)=false:=ar.2 h4;have HE1:Hid (nT v k f=(jZ f.qos&&(jZ f.handling&& !(fy f.topic&&f.noLocal)))):=aa (by rw[HE.out,ae hk,ae h4]);clear hk h4 HE
 go_wp2_with fail
 refine(wo f.topic _ HS.out).mono ?_;rintro e w1 ⟨⟨a,b,rfl⟩,hb⟩;have HB1:=aa (HB0.out.trans (hb.mono HB0.out.size));have HK1:=aa (HK0.out.below hb HK0.out.lt);clear hb;have c1:=HK1.out.cell 1;have c2:=HK1.out.cell 2;have c4:=HK1.out.cell 4
 simp only[ay,aE,aB]at c1 c2 c4;generalize fy f.topic=sh at*
 go_wp2_with fail
 refine(nJ f.qos _).mono ?_;rintro e w2 ⟨rfl,hw2⟩;subst hw2;cases hq:jZ f.qos
 ·have HX:Hid (nT v k f=false):=aa (by rw[HE1.out,hq];rfl);clear hq
  go_wp2
  go_ret
  exact⟨by rw[HX.out];rfl,HB1.out⟩
 have HE2:Hid (nT v k f=(jZ f.handling&& !(sh&&f.noLocal))):=aa (by rw[HE1.out,hq,aL]);clear hq
 go_wp2_with fail
 refine(nJ f.handling _).mono ?_;rintro e w2 ⟨rfl,hw2⟩;subst hw2;cases hq:jZ f.handling
 ·have HX:Hid (nT v k f=false):=aa (by rw[HE2.out,hq];rfl);clear hq
  go_wp2
  go_ret
  exact⟨by rw[HX.out];rfl,HB1.out⟩
 have HE3:Hid (nT v k f= !(sh&&f.noLocal)):=aa (by rw[HE2.out,hq,aL]);clear hq;cases sh
 ·go_wp2
  go_ret
  exact⟨by rw[HE3.out];rfl,HB1.out⟩
 ·go_wp2
  go_ret
  exact⟨by rw[HE3.out];rfl,HB1.out⟩
end Go.Proofs.YtpcleamaieaefaaGreatDoor
namespace Go.Proofs.YtpcleamaieaefaaGreatDoor
open Go.RowKit
attribute [local go_sem ↓] bD bF bH bI bu
attribute [local go_sem] bc aD bh bg bK bJ bd aY be aO ax cI dC dB dt dj di dA dr dp dn bW co bO bZ bX cz cy cw cu ct cC cn bS bP bR
theorem FL {v k:Int} {l:List Fi} {i:Nat} (hi:i<l.length):fiE v k (l.drop i)=if gj l[i].topic=false then 10 else if nT v k l[i]=false then 2 else fiE v k (l.drop (i+1)):=by
 rw[bQ hi];rfl
theorem F8 {v k:Int} {l:List Int} {i:Nat} (hi:i<l.length):cdE v k (l.drop i)=if xF v k l[i]=false then 2 else cdE v k (l.drop (i+1)):=by
 rw[bQ hi];rfl
theorem lg (v:Int) (p:Pk) (h:Hs) (w:World) (ip:PkIn w w.heap.size p h) (ok:PkOk p):
  Calls Tryz.prog 17 #[.int .i64 v,pkV p h] w fun e w'=>e= .returned (.int .i64 (sbE v p))∧Below w.heap.size w w':=by
 have OK:=aa ok;have S0:=aa ((St.start w).push ip);have HE:Hid (sbE v p=if xY v p=false then 2 else if(aM p.kind p.props).2≠0 then(aM p.kind p.props).2
  else if fiE v p.kind p.filters≠0 then fiE v p.kind p.filters else cdE v p.kind p.codes):=aa rfl
 have HA:Hid (xY v p=(ir v p.kind&&eH v p)):=aa rfl;have k0:=S0.out.cell 0 rfl;have l0:=S0.out.ld 0 rfl;clear ip ok
 go_enter Tryz.func17,Tryz.ntmps17
 go_wp2_with fail
 refine(oI v p.kind _).mono ?_;rintro e w1 ⟨rfl,hw1⟩;subst hw1;cases hk:ir v p.kind
 ·have HX:Hid (sbE v p=2):=aa (by rw[HE.out,if_pos (by rw[HA.out,hk];rfl)]);clear hk
  go_wp2
  go_ret
  exact⟨by rw[HX.out];rfl,S0.out.kept⟩
 have HA1:Hid (xY v p=eH v p):=aa (by rw[HA.out,hk,aL]);clear hk HA
 go_wp2_with fail
 refine(sJ v p h _ (S0.out.into 0 rfl) OK.out).mono ?_;rintro e w1 ⟨rfl,hb⟩;have S1:=aa (S0.out.below hb);clear hb k0 l0
 have k0:=S1.out.cell 0 rfl;cases hf:eH v p
 ·have HX:Hid (sbE v p=2):=aa (by rw[HE.out,if_pos (by rw[HA1.out,hf])]);clear hf
  go_wp2
  go_ret
  exact⟨by rw[HX.out];rfl,S1.out.kept⟩
 have HE1:Hid (sbE v p=if(aM p.kind p.props).2≠0 then(aM p.kind p.props).2 else if fiE v p.kind p.filters≠0 then fiE v p.kind p.filters else cdE v p.kind p.codes):=aa (by
  rw[HE.out,ae (by rw[HA1.out,hf];decide)])
 clear hf HE HA1
 go_wp2_with fail
 refine(gu p.kind p.props _ rfl OK.out.props h.props.a h.props.c _ (S1.out.into 0 rfl).props OK.out.len.2.2.2).mono ?_;rintro e w2 ⟨rfl,hb⟩;have S2:=aa (S1.out.below hb);clear hb k0
 have k0:=S2.out.cell 0 rfl;obtain⟨x,hx⟩:∃x,(aM p.kind p.props).2=x:=⟨_,rfl⟩;rw[hx]at HE1⊢;clear hx
 by_cases hx:x=0
 rotate_left
 ·have HX:Hid (sbE v p=x):=aa (by rw[HE1.out,if_pos hx]);have e0:(x !=0)=true:=aA.2 hx;clear hx
  go_wp2
  go_ret
  exact⟨by rw[HX.out];rfl,S2.out.kept⟩
 have HE2:Hid (sbE v p=if fiE v p.kind p.filters≠0 then fiE v p.kind p.filters else cdE v p.kind p.codes):=aa (by rw[HE1.out,ae (fun y=>y hx)]);have e0:(x !=0)=false:=by rw[hx];rfl
 have HFL:=aa OK.out.len.2.2.1;have HCL:=aa OK.out.len.2.1;clear hx HE1;obtain⟨n,hn⟩:∃n,p.filters.length=n:=⟨_,rfl⟩;obtain⟨m,hm⟩:∃m,p.codes.length=m:=⟨_,rfl⟩;have k23:=k0 23;have k22:=k0 22
 rw[bP,hn]at k23;rw[bS,hm]at k22;have kk:=(k0 0).trans (cI _ _);have HN:=aa hn;have HM:=aa hm
 have hn2:n≤4611686018427387904:=by have:=HFL.out;omega
 have hm2:m≤4611686018427387904:=by have:=HCL.out;omega
 clear hn hm k0
 go_wp2
 go_loopw [32] (fun i wr=>∃k:Nat,k≤n∧i= .int .i64 k∧fiE v p.kind p.filters=fiE v p.kind (p.filters.drop k)∧Below w2.heap.size w2 wr) (fun i _=>n- (intOf i).toNat)
 case atStart=>exact⟨0,by omega,rfl,by rw[cS],aq _ _⟩
 case round=>
  obtain⟨k,hk,rfl,hfi,hbel⟩:=hrel;have S3:=aa (S2.out.below hbel);have HF:=aa hfi;have HBL:=aa hbel
  clear hfi kk k22 k23;have kk:=(S3.out.cell 0 rfl 0).trans (cI _ _);have k22:=S3.out.cell 0 rfl 22;rw[bS,HM.out]at k22
  by_cases hlt:k<n
  ·have hp:k<p.filters.length:=by rw[HN.out];exact hlt
   obtain⟨b,o,hA,hb,c0,c1,c2,c3,c4⟩:=((S3.out.into 0 rfl).filters).atF hp;have hts:=OK.out.topics p.filters[k] (iY hp);have HAT:=aa (HF.out.trans (FL (v:=v) (k:=p.kind) hp));generalize p.filters[k]=f at*;have HTS:=aa hts;have b1:(0:Int)≤(k:Int):=by omega
   have b2:(k:Int)<(n:Int):=by omega
   clear hp hts;have S4:=aa (S3.out.alloc (.cells #[.string f.topic,.int .i64 f.qos,.bool f.noLocal,.bool f.asPub,.int .i64 f.handling] 32));have HB4:=aa (HBL.out.alloc HBL.out.size (.cells #[.string f.topic,.int .i64 f.qos,.bool f.noLocal,.bool f.asPub,.int .i64 f.handling] 32));have K4:=aa (Bk.fresh wr 32 #[.string f.topic,.int .i64 f.qos,.bool f.noLocal,.bool f.asPub,.int .i64 f.handling])
   go_wp2_with fail
   refine(qB f.topic _ (by have:=HTS.out;omega)).mono ?_;rintro e w4 ⟨rfl,hb4⟩;have S5:=aa (S4.out.below hb4);have HB5:=aa (HB4.out.trans (hb4.mono HB4.out.size));have K5:=aa (K4.out.below hb4 K4.out.lt);clear hb4 kk c0 c1 c2 c3 c4;have kk:=(S5.out.cell 0 rfl 0).trans (cI _ _);cases hfl:gj f.topic
   ·have HX:Hid (sbE v p=10):=aa (by
     have e:fiE v p.kind p.filters=10:=by rw[HAT.out,if_pos hfl]
     rw[HE2.out,e,if_pos (by decide)])
    clear hfl
    go_wp2
    go_ret
    exact⟨by rw[HX.out];rfl,S5.out.kept⟩
   have HAT2:Hid (fiE v p.kind p.filters=if nT v p.kind f=false then 2 else fiE v p.kind (p.filters.drop (k+1))):=aa (by rw[HAT.out,ae (by rw[hfl];decide)]);clear hfl;have c0:=K5.out.cell 0;have c1:=K5.out.cell 1;have c2:=K5.out.cell 2;have c3:=K5.out.cell 3;have c4:=K5.out.cell 4
   simp only[ay,aE,aB]at c0 c1 c2 c3 c4
   go_wp2_with fail
   refine(BT v p.kind f _ (by have:=HTS.out;omega)).mono ?_;rintro e w5 ⟨rfl,hb5⟩;have S6:=aa (S5.out.below hb5);have HB6:=aa (HB5.out.trans (hb5.mono HB5.out.size));clear hb5 c0 c1 c2 c3 c4 kk;cases hop:nT v p.kind f
   ·have HX:Hid (sbE v p=2):=aa (by
     have e:fiE v p.kind p.filters=2:=by rw[HAT2.out,if_pos hop]
     rw[HE2.out,e,if_pos (by decide)])
    clear hop
    go_wp2
    go_ret
    exact⟨by rw[HX.out];rfl,S6.out.kept⟩
   have HX:Hid (fiE v p.kind p.filters=fiE v p.kind (p.filters.drop (k+1))):=aa (by rw[HAT2.out,ae (by rw[hop];decide)]);clear hop
   go_wp2
   go_roundw
   case rel=>
    simp only[hA]
    (repeat apply Exists.intro)
    refine⟨?_,rfl⟩;exact⟨k+1,by omega,by go_num,HX.out,HB6.out⟩
   case measure=>simp[intOf];omega
  ·obtain rfl:k=n:=by omega
   have HX:Hid (sbE v p=cdE v p.kind p.codes):=aa (by
    have e:fiE v p.kind p.filters=0:=by rw[HF.out,←HN.out,ox];rfl
    rw[HE2.out,e,ae (fun y=>y rfl)])
   clear HE2 HF
   go_wp2
   go_loopw [50] (fun i wq=>∃k:Nat,k≤m∧i= .int .i64 k∧cdE v p.kind p.codes=cdE v p.kind (p.codes.drop k)∧Below wr.heap.size wr wq) (fun i _=>m- (intOf i).toNat)
   case atStart=>exact⟨0,by omega,rfl,by rw[cS],aq _ _⟩
   case round=>
    obtain⟨j,hj,rfl,hcd,hbq⟩:=hrel;have S4:=aa (S3.out.below hbq);have HC:=aa hcd;have HBQ:=aa hbq
    clear hcd kk k22;have kk:=(S4.out.cell 0 rfl 0).trans (cI _ _)
    by_cases hlt2:j<m
    ·have hp:j<p.codes.length:=by rw[HM.out];exact hlt2
     obtain⟨b,o,z,hA,hb,hz,hc⟩:=((S4.out.into 0 rfl).codes).atI hp;have HZ:Hid (cdE v p.kind p.codes=if xF v p.kind z=false then 2 else cdE v p.kind (p.codes.drop (j+1))):=aa (by
      rw[HC.out,F8 hp];rw[List.getElem?_eq_getElem hp]at hz;rw[Option.some.inj hz])
     have b1:(0:Int)≤(j:Int):=by omega
     have b2:(j:Int)<(m:Int):=by omega
     clear hp hz
     go_wp2_with fail
     refine(Dx v p.kind z _).mono ?_;rintro e w5 ⟨rfl,hb5⟩;have S5:=aa (S4.out.below hb5);have HB5:=aa (HBQ.out.trans (hb5.mono HBQ.out.size));clear hb5 hc kk;cases hop:xF v p.kind z
     ·have HX2:Hid (sbE v p=2):=aa (by rw[HX.out,HZ.out,if_pos hop]);clear hop
      go_wp2
      go_ret
      exact⟨by rw[HX2.out];rfl,S5.out.kept⟩
     have HX2:Hid (cdE v p.kind p.codes=cdE v p.kind (p.codes.drop (j+1))):=aa (by rw[HZ.out,ae (by rw[hop];decide)]);clear hop
     go_wp2
     go_roundw
     case rel=>
      simp only[hA]
      (repeat apply Exists.intro)
      refine⟨?_,rfl⟩;exact⟨j+1,by omega,by go_num,HX2.out,HB5.out⟩
     case measure=>simp[intOf];omega
    ·obtain rfl:j=m:=by omega
     have HX2:Hid (sbE v p=0):=aa (by rw[HX.out,HC.out,←HM.out,ox];rfl)
     go_wp2
     go_ret
     exact⟨by rw[HX2.out];rfl,S4.out.kept⟩
end Go.Proofs.YtpcleamaieaefaaGreatDoor
namespace Go.Proofs.YtpcleamaieaefaaGreatDoor
open Go.RowKit
section
variable {w w':World} {base:Nat} {v:Value} {l:List UInt8}
theorem pG (a b:List UInt8):bys (a++b)=bys a++bys b:=by simp[bys]
end
section
variable {P:Program} (w:World) {base:Nat} {v:Value} {l:List UInt8}
end
end Go.Proofs.YtpcleamaieaefaaGreatDoor
