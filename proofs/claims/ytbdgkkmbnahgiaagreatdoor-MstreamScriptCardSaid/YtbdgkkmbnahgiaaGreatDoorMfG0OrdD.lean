/- A part of what the laws stand on: OrdD, ConA, MFil, SubA, FilC. -/
import Derived.OrdersHeld
import Derived.Deep.RegionHeld
import Derived.Test.YtbdgkkmbnahgiaaGreatDoorMfG0MPubB
import Derived.Lib.SplitLaws
import Derived.Shelf.Strings.SplitCore
import Derived.Shelf.Strings.Search3
import Derived.Shelf.Strings.Count
import Derived.Shelf.Strings.Cut
set_option maxRecDepth 10000
set_option maxHeartbeats 8000000
namespace Go.Proofs.YtbdgkkmbnahgiaaGreatDoor
open Go
open Go.Proofs.Tryz
section
variable {P:Program} {ops:Array Oper} {Q:Exit->Act->World->Prop} {md:Region.Mode} {S:World->Prop} {D:List Nat}
def pd(P:Program)(md:Region.Mode)(ops:Array Oper)(Q:Exit->Act->World->Prop)(S:World->Prop)(D:List Nat):Nat->Array Bool->Act->World->Prop
 | 0,listed,a,w=>Region.ready md ops listed=[]/\Q .normal a w
 | fuel+1,listed,a,w=>
   (Region.ready md ops listed=[]->Q .normal a w)/\
   ∀i∈Region.ready md ops listed,wpOp P ops Q i (fun a' w'=>((∀d∈D,(listed.setIfInBounds i true).getD d true=false)->S w')/\pd P md ops Q S D fuel (listed.setIfInBounds i true) a' w') a w
theorem vO:∀(fuel:Nat) (listed:Array Bool) (a:Act) (w:World),pd P md ops Q S D fuel listed a w->wpAny P md ops Q fuel listed a w
 | 0,_,_,_,h=>h
 | fuel+1,_,_,_,h=>⟨h.1,fun i hi=>wpOp_mono (fun a' w' h'=>vO fuel _ a' w' h'.2) (h.2 i hi)⟩
theorem tr{listed:Array Bool}{i:Nat}(h:listed.getD i true=false):listed.getD i false=false:=by
 rcases fj i listed.size with h'| h'
 ·simp[h']at h⊢;exact h
 ·simp[Array.getElem?_eq_none h']at h
def tH(md:Region.Mode)(ops:Array Oper)(i:Nat)(L:List Nat):Bool:=
 L.all fun j=>match ops[j]? with
  | some oj=>j !=i&&oj.after.any fun e=>Region.binds md e&&(e.on==i || L.contains e.on)
  | none=>false
theorem oW{i:Nat}{L:List Nat}(h:tH md ops i L=true)(j:Nat)(hj:j∈L):
  j≠i/\∃oj,ops[j]? =some oj/\∃e∈oj.after,Region.binds md e=true/\(e.on=i\/e.on∈L):=by
 have h1:=dL.1 h j hj;split at h1
 ·rename_i oj hoj;simp only[eh,aA]at h1;obtain⟨e,he,hb⟩:=Array.any_eq_true'.1 h1.2;simp only[eh,Bool.or_eq_true,aK,IE]at hb;exact⟨h1.1,oj,hoj,e,he,hb.1,hb.2⟩
 ·cases h1
theorem xE{i:Nat}{oi:Oper}{v:Value}{L:List Nat}(hi:ops[i]? =some oi)(hsel:∀(j:Nat) (o:Oper) cs b,ops[j]? =some o->o.op≠ .select cs b)
  (hQ:∀c a w,Q (.panic c) (a.put oi.dst v) w->Q (.panic c) a w)(hD:∀d∈D,d∈L)(hL:tH md ops i L=true):
  ∀(fuel:Nat) (listed:Array Bool) (a:Act) (w:World),
   (∀j oj,ops[j]? =some oj->j≠i->listed.getD j true=false->(∀e∈oj.after,Region.binds md e=true->e.on≠i)->oi.apart ops oj=true)->
   i∈Region.ready md ops listed->(∀j∈L,listed.getD j true=false)->YieldsIf P ops S oi v a->S w->
   pd P md ops Q S D fuel (listed.setIfInBounds i true) (a.put oi.dst v) w->pd P md ops Q S D (fuel+1) listed a w:=by
 intro fuel
 induction fuel with
 | zero=>
   intro listed a w _ hr hun hy hS H;refine⟨fun h=>(by rw[h]at hr;cases hr),fun j hj=>?_⟩
   by_cases hji:j=i
   ·subst hji;exact hy.wpOp hi hS ⟨fun _=>hS,H⟩
   ·have:=ready_mono hj hji;rw[H.1]at this;cases this
 | succ fuel ih=>
   intro listed a w hfree hr hun hy hS H;refine⟨fun h=>(by rw[h]at hr;cases hr),fun j hj=>?_⟩
   by_cases hji:j=i
   ·subst hji;exact hy.wpOp hi hS ⟨fun _=>hS,H⟩
   ·have h1:=H.2 j (ready_mono hj hji);obtain⟨hjun,oj,hoj,hall⟩:=mem_ready.1 hj;have hiun:=(mem_ready.1 hr).1;have hnot:∀e∈oj.after,Region.binds md e=true->e.on≠i:=fun e he hb heq=>by
     have h1:=hall e he hb;rw[heq,tr hiun]at h1;cases h1
    have hjL:j ∉ L:=fun hjL=>by
     obtain⟨-,o',ho',e,he,hb,hon⟩:=oW hL j hjL;have:o'=oj:=Option.some.inj (ho'.symm.trans hoj);subst this;have h2:=hall e he hb;rcases hon with hon| hon
     ·rw[hon,tr hiun]at h2;cases h2
     ·rw[tr (hun _ hon)]at h2;cases h2
    have h2:=wpOp_putIf hoj (hfree j oj hoj hji hjun hnot) (fun cs b=>hsel i oi cs b hi) (fun cs b=>hsel j oj cs b hoj) hQ hy h1;have hfree':∀k ok,ops[k]? =some ok->k≠i->(listed.setIfInBounds j true).getD k true=false->
      (∀e∈ok.after,Region.binds md e=true->e.on≠i)->oi.apart ops ok=true:=fun k ok hk hki hun hno=>by
     refine hfree k ok hk hki ?_ hno
     by_cases hjk:j=k
     ·subst hjk;exact hjun
     ·rw[getD_set_ne true hjk]at hun;exact hun
    have hunj:∀k∈L,(listed.setIfInBounds j true).getD k true=false:=fun k hk=>by
     have hjk:j≠k:=fun h=>by rw[h]at hjL;exact hjL hk
     rw[getD_set_ne true hjk];exact hun k hk
    have hunD:∀d∈D,((listed.setIfInBounds i true).setIfInBounds j true).getD d true=false:=fun d hd=>by
     have hdL:=hD d hd;have hdi:i≠d:=fun h=>(oW hL d hdL).1 h.symm;have hdj:j≠d:=fun h=>by rw[h]at hjL;exact hjL hdL
     rw[getD_set_ne true hdj,getD_set_ne true hdi];exact hun d hdL
    refine wpOp_mono (fun a' w' h3=>⟨fun _=>h3.2.1 hunD,ih (listed.setIfInBounds j true) a' w' hfree' (ready_mono hr (Ne.symm hji)) hunj h3.1 (h3.2.1 hunD) ?_⟩) h2;rw[Array.setIfInBounds_comm _ _ hji];exact h3.2.2
def Gh(listed:Array Bool)(L:List Nat):Bool:=L.all fun j=>!listed.getD j true
theorem aJ{i:Nat}(L:List Nat){oi:Oper}{v:Value}{fuel:Nat}{listed:Array Bool}{a:Act}{w:World}(hi:ops[i]? =some oi)
  (hs:Region.noSelect ops=true)(hf:Region.free md ops listed i=true)(hr:(Region.ready md ops listed).contains i=true)
  (hL:tH md ops i L=true)(hD:(D.all fun d=>L.contains d)=true)(hn:Gh listed L=true)
  (hQ:∀c a w,Q (.panic c) (a.put oi.dst v) w->Q (.panic c) a w)(hy:YieldsIf P ops S oi v a)(hS:S w)
  (h:pd P md ops Q S D fuel (listed.setIfInBounds i true) (a.put oi.dst v) w):pd P md ops Q S D (fuel+1) listed a w:=
 xE (L:=L) hi (Region.noSelect_spec hs) hQ (fun d hd=>by simpa using dL.1 hD d hd) hL fuel listed a w (Region.free_spec hi hf) (by simpa using hr)
  (fun j hj=>by simpa using dL.1 hn j hj) hy hS h
theorem Uo{i:Nat}(L:List Nat){oi:Oper}{v:Value}{fuel:Nat}{listed:Array Bool}{a:Act}{w:World}(hi:ops[i]? =some oi)
  (hy:YieldsIf P ops S oi v a)(hS:S w)(h:pd P md ops Q S D fuel (listed.setIfInBounds i true) (a.put oi.dst v) w)
  (hs:Region.noSelect ops=true:=by kernel_rfl)(hf:Region.free md ops listed i=true:=by kernel_rfl)(hr:(Region.ready md ops listed).contains i=true:=by kernel_rfl)
  (hL:tH md ops i L=true:=by kernel_rfl)(hD:(D.all fun d=>L.contains d)=true:=by kernel_rfl)(hn:Gh listed L=true:=by kernel_rfl)
  (hQ:∀c a w,Q (.panic c) (a.put oi.dst v) w->Q (.panic c) a w:=by exact fun _ _ _ h=>h):pd P md ops Q S D (fuel+1) listed a w:=
 aJ L hi hs hf hr hL hD hn hQ hy hS h
def ep(P:Program)(md:Region.Mode)(ops:Array Oper)(Q:Exit->Act->World->Prop)(S:World->Prop)(D:List Nat)(fuel:Nat)(listed:Array Bool)(a:Act)(w:World)(rs:List Nat):Prop:=
 ∀i∈rs,wpOp P ops Q i (fun a' w'=>((∀d∈D,(listed.setIfInBounds i true).getD d true=false)->S w')/\pd P md ops Q S D fuel (listed.setIfInBounds i true) a' w') a w
theorem ep.nil{fuel:Nat}{listed:Array Bool}{a:Act}{w:World}:ep P md ops Q S D fuel listed a w []:=fun _ h=>by cases h
theorem ep.cons{fuel:Nat}{listed:Array Bool}{a:Act}{w:World}{i:Nat}{o:Oper}{rs:List Nat}(ho:ops[i]? =some o)
  (h:∀K':Act->World->Prop,Shut (∀a w,((∀d∈D,(listed.setIfInBounds i true).getD d true=false)->S w)->pd P md ops Q S D fuel (listed.setIfInBounds i true) a w->K' a w)->if Region.wanted o (yielded ops a.tmps)=true then Oper.wp P o a w K' Q else K' (a.put o.dst undef) w)
  (hs:ep P md ops Q S D fuel listed a w rs):ep P md ops Q S D fuel listed a w (i :: rs):=fun j hj=>by
 rcases ie.1 hj with rfl| hj
 ·exact wpOp_step ho (fun K' hK=>h K' (fun a w hS hW=>hK a w ⟨hS,hW⟩))
 ·exact hs j hj
theorem cq{rs:List Nat}{fuel:Nat}{listed:Array Bool}{a:Act}{w:World}(hr:Region.ready md ops listed=rs)(hne:rs≠[])
  (h:ep P md ops Q S D fuel listed a w rs):pd P md ops Q S D (fuel+1) listed a w:=⟨fun h0=>absurd (hr▸h0) hne,hr▸h⟩
theorem oh{listed:Array Bool}{a:Act}{w:World}(hr:Region.ready md ops listed=[])(h:Q .normal a w):
  ∀fuel,pd P md ops Q S D fuel listed a w
 | 0=>⟨hr,h⟩
 | _+1=>⟨fun _=>h,by rw[hr];simp⟩
theorem yF{listed:Array Bool}{i d:Nat}(h:listed.getD d true=true):(listed.setIfInBounds i true).getD d true=true:=by
 by_cases hid:i=d
 ·subst hid;rcases fj i listed.size with h'| h'
  ·simp[h']
  ·simp[Array.getElem?_eq_none h',Array.setIfInBounds_eq_of_size_le h']
 ·rw[getD_set_ne true hid];exact h
theorem mc{d:Nat}(hd:d∈D):∀(fuel:Nat) (listed:Array Bool) (a:Act) (w:World),listed.getD d true=true->wpAny P md ops Q fuel listed a w->pd P md ops Q S D fuel listed a w
 | 0,_,_,_,_,h=>h
 | fuel+1,_,_,_,hl,h=>⟨h.1,fun i hi=>wpOp_mono (fun a' w' h'=>⟨fun hn=>absurd ((yF hl).symm.trans (hn d hd)) (by decide),mc hd fuel _ a' w' (yF hl) h'⟩) (h.2 i hi)⟩
theorem tK{fuel:Nat}{listed:Array Bool}{a:Act}{w:World}{i:Nat}{o:Oper}{rs:List Nat}(ho:ops[i]? =some o)
  (h:∀K':Act->World->Prop,Shut (∀a w,wpAny P md ops Q fuel (listed.setIfInBounds i true) a w->K' a w)->if Region.wanted o (yielded ops a.tmps)=true then Oper.wp P o a w K' Q else K' (a.put o.dst undef) w)
  (hs:AllReady P md ops Q fuel listed a w rs):AllReady P md ops Q fuel listed a w (i :: rs):=AllReady.cons ho h hs
theorem Up(i:Nat){fuel:Nat}{listed:Array Bool}{a:Act}{w:World}{o:Oper}(ho:ops[i]? =some o)
  (h:∀K':Act->World->Prop,Shut (∀a w,((∀d∈D,(listed.setIfInBounds i true).getD d true=false)->S w)->pd P md ops Q S D fuel (listed.setIfInBounds i true) a w->K' a w)->if Region.wanted o (yielded ops a.tmps)=true then Oper.wp P o a w K' Q else K' (a.put o.dst undef) w)
  (hr:Region.ready md ops listed=[i]:=by kernel_rfl):pd P md ops Q S D (fuel+1) listed a w:=cq hr (by simp) (ep.cons ho h ep.nil)
theorem Uq(i:Nat){fuel:Nat}{listed:Array Bool}{a:Act}{w:World}{o:Oper}(ho:ops[i]? =some o)
  (h:∀K':Act->World->Prop,Shut (∀a w,wpAny P md ops Q fuel (listed.setIfInBounds i true) a w->K' a w)->if Region.wanted o (yielded ops a.tmps)=true then Oper.wp P o a w K' Q else K' (a.put o.dst undef) w)
  (hr:Region.ready md ops listed=[i]:=by kernel_rfl):wpAny P md ops Q (fuel+1) listed a w:=Qt hr (by simp) (tK ho h Qr)
theorem je{id:Nat}{a:Act}{w:World}(S:World->Prop)(D:List Nat)(hm:P.follows .mixedOrders=true)
  (h:pd P .any ops Q S D ops.size (Array.replicate ops.size false) a w.drew):(Code.region id ops true).wp P Q a w:=
 wp_region_any hm (vO _ _ _ _ h)
end
end Go.Proofs.YtbdgkkmbnahgiaaGreatDoor
namespace Go.Proofs.YtbdgkkmbnahgiaaGreatDoor
open Go.RowKit Go.Proofs.Tryz
def qH(k:Int):Bool:=decide (12<=k/\k<=15)
def fO(v k:Int):Bool:=decide ((k=14\/k=15)/\v=5)
def jR(v k:Int):Int:=if qH k=false\/¬(v=4\/v=5)then 2 else if k=15/\v=4 then 8 else 0
def conQ(v:Int)(p:Pk):Pk:=if fO v p.kind=true then aP p.kind 0 p.code p.props else aP p.kind 0 0 []
def fH(v:Int)(p:Pk):Int:=
 if jR v p.kind≠0 then jR v p.kind
 else if fO v p.kind=true/\may p.kind p.code=false then 2
 else if p≠conQ v p then 2
 else(aM p.kind p.props).2
def xV(code:Int)(l:List Pr)(k:Int):List UInt8:=if code<0\/255<code\/(aM k l).2≠0 then []else oG k code l
def FY(v:Int)(p:Pk):List UInt8×Int:=if fH v p=0 then(xV p.code p.props p.kind,0)else([],fH v p)
def pK(k:Int)(s:ByteArray):Int:=if(dg k s 0).2.2.2≠0 then(dg k s 0).2.2.2 else if(dg k s 0).2.2.1<s.size then 5 else 0
def iO(k:Int)(s:ByteArray):Int×List Pr×Int:=if pK k s≠0 then(0,[],pK k s)else((dg k s 0).1,(dg k s 0).2.1,0)
def fA(v k:Int)(s:ByteArray):Int×List Pr×Int:=if fO v k=true then iO k s else(0,[],if s.size≠0 then 5 else 0)
def fN(v k:Int)(s:ByteArray):Pk:=aP k 0 (fA v k s).1 (fA v k s).2.1
def gX(v k:Int)(s:ByteArray):Pk×Int:=
 if jR v k≠0 then(pk0,jR v k)
 else if(fA v k s).2.2≠0 then(pk0,(fA v k s).2.2)
 else if fH v (fN v k s)≠0 then(pk0,fH v (fN v k s))
 else(fN v k s,0)
structure ConGood (v:Int) (p:Pk):Prop where
 k:jR v p.kind=0
 may:fO v p.kind=true->may p.kind p.code=true
 old:fO v p.kind=false->p.code=0/\p.props=[]
 same:p=conQ v p
 c1:0<=p.code
 c2:p.code<256
 bytes:(aM p.kind p.props).2=0
theorem Ap{v:Int}{p:Pk}(x:fH v p=0):ConGood v p:=by
 unfold fH at x;split at x
 ·next h=>exact absurd x h
 ·next hk=>
  split at x
  ·cases x
  ·next hm=>
   split at x
   ·cases x
   ·next hs=>
    have hs':=aU.1 hs;have hq:fO v p.kind=false->p.code=0/\p.props=[]:=fun hf=>by
     have hq:conQ v p=aP p.kind 0 0 []:=by unfold conQ;rw[ae (by rw[hf];decide)]
     rw[hq]at hs';exact⟨congrArg Pk.code hs',congrArg Pk.props hs'⟩
    have hmay:fO v p.kind=true->Go.Proofs.YtbdgkkmbnahgiaaGreatDoor.may p.kind p.code=true:=fun ht=>by
     cases e:Go.Proofs.YtbdgkkmbnahgiaaGreatDoor.may p.kind p.code
     ·exact absurd ⟨ht,e⟩ hm
     ·rfl
    have hc:0<=p.code/\p.code<256:=by
     cases e:fO v p.kind
     ·have:=(hq e).1;omega
     ·exact n6 (hmay e)
    exact⟨aU.1 hk,hmay,hq,hs',hc.1,hc.2,x⟩
theorem ConGood.ok{v:Int}{p:Pk}(x:ConGood v p):fH v p=0:=by
 unfold fH;rw[ae (fun h=>h x.k),ae,ae (fun h=>h x.same)]
 ·exact x.bytes
 ·rintro ⟨h1,h2⟩;rw[x.may h1]at h2;cases h2
theorem ConGood.tail{v:Int}{p:Pk}(x:ConGood v p):xV p.code p.props p.kind=oG p.kind p.code p.props:=by
 unfold xV;rw[ae];rintro (h| h| h)
 ·have:=x.c1;omega
 ·have:=x.c2;omega
 ·exact h x.bytes
theorem we{v k:Int}{s:ByteArray}(h:(fA v k s).2.2=0):oG k (fA v k s).1 (fA v k s).2.1=ls s:=by
 unfold fA at h⊢;cases e:fO v k
 ·rw[e,ae (by decide)]at h;rw[ae (by decide)];have hz:s.size=0:=aU.1 fun x=>by simp only at h;rw[if_pos x]at h;cases h
  have:ls s=[]:=aF (by rw[aN];exact hz);rw[this];rfl
 ·rw[e,if_pos rfl]at h;rw[if_pos rfl];unfold iO at h⊢;have he:pK k s=0:=aU.1 fun x=>by rw[if_pos x]at h;exact x h
  rw[ae (fun x=>x he)];unfold pK at he;have h1:(dg k s 0).2.2.2=0:=aU.1 fun x=>by rw[if_pos x]at he;exact x he
  rw[ae (fun x=>x h1)]at he;have h2:¬(dg k s 0).2.2.1<s.size:=fun x=>by rw[if_pos x]at he;cases he
  have:=(rM (k:=k) (t:=s) (a:=0) (by omega) h1 (by omega)).1;rw[cS]at this;exact this.symm
theorem An(v k:Int)(s:ByteArray):(gX v k s=(pk0,(gX v k s).2)/\(gX v k s).2≠0)\/
  ((gX v k s).2=0/\ConGood v (gX v k s).1/\(gX v k s).1.kind=k/\xV (gX v k s).1.code (gX v k s).1.props (gX v k s).1.kind=ls s):=by
 unfold gX
 by_cases h1:jR v k≠0
 ·rw[if_pos h1];exact .inl ⟨rfl,h1⟩
 rw[ae h1]
 by_cases h2:(fA v k s).2.2≠0
 ·rw[if_pos h2];exact .inl ⟨rfl,h2⟩
 rw[ae h2]
 by_cases h3:fH v (fN v k s)≠0
 ·rw[if_pos h3];exact .inl ⟨rfl,h3⟩
 rw[ae h3];have g:=Ap (aU.1 h3);refine .inr ⟨rfl,g,rfl,?_⟩;simp only;rw[g.tail];exact we (aU.1 h2)
theorem mA{v k:Int}{s:ByteArray}(hs:s.size<=140737488351232):(∀p∈(fA v k s).2.1,ea p)/\(fA v k s).2.1.length<=1000:=by
 unfold fA;split
 ·unfold iO;split
  ·exact⟨by simp,ag _⟩
  ·exact⟨nN hs,nM k s 0⟩
 ·exact⟨by simp,ag _⟩
theorem EO{v k:Int}{s:ByteArray}(hs:s.size<=140737488351232):PkOk (gX v k s).1:=by
 have hpre:PkOk (fN v k s):=iw (mA hs).1 (by have:=(mA (v:=v) (k:=k) hs).2;omega);have h0:PkOk pk0:=iw (k:=0) (i:=0) (c:=0) (l:=[]) (by simp) (by simp);unfold gX;split
 ·exact h0
 ·split
  ·exact h0
  ·split
   ·exact h0
   ·exact hpre
end Go.Proofs.YtbdgkkmbnahgiaaGreatDoor
namespace Go.Proofs.YtbdgkkmbnahgiaaGreatDoor
open Go.RowKit Go.Shelf
open Go.Proofs.Tryz
def lvs(s:ByteArray):List ByteArray:=Lib.splitB ⟨#[47]⟩ 0 (Lib.countB s ⟨#[47]⟩) s
theorem lW(l:List UInt8)(c:UInt8)(j:Nat):Lib.occAt l [c] j=(l[j]? ==some c):=by
 unfold Lib.occAt;rw[<-List.head?_drop];cases l.drop j with
 | nil=>rfl
 | cons b t=>
   rw[eG];simp[List.isPrefixOf];exact eq_comm
theorem Aa{l:List UInt8}{c:UInt8}{i:Nat}(h:l[i]? =some c)(hn:∀j,j<i->l[j]? ≠some c):Lib.index l [c]=i:=by
 refine Lib.index_first ?_ ?_ ?_
 ·have:=(cR.1 h).1;omega
 ·rw[lW,h];simp
 ·intro j hj;rw[lW];simpa using hn j hj
theorem xc{l:List UInt8}{c:UInt8}(hn:∀j:Nat,l[j]? ≠some c):Lib.index l [c]= -1:=
 Lib.index_none fun j _=>by rw[lW];simpa using hn j
theorem Cm{s:ByteArray}(h:∀j:Nat,(ls s)[j]? ≠some 47):lvs s=[s]:=Lib.splitB_miss _ _ _ _ (xc h)
theorem Er{s:ByteArray}{i:Nat}(h:(ls s)[i]? =some 47)(hn:∀j:Nat,j<i->(ls s)[j]? ≠some 47):lvs s=s.extract 0 i :: lvs (s.extract (i+1) s.size):=by
 have hi:Lib.indexB s ⟨#[47]⟩=i:=Aa h hn;have hc:=Lib.countB_hit s ⟨#[47]⟩ i (by decide) hi;unfold lvs;rw[hc,Nat.add_comm 1,Lib.splitB_hit _ _ _ _ i hi];rfl
theorem n7(s:ByteArray):(lvs s).length=Lib.countB s ⟨#[47]⟩+1:=Lib.splitB_all _ (by decide) 0 _ s rfl
theorem Eo(s:ByteArray):(lvs s).length<=s.size+1:=by
 have:=Lib.countB_le ⟨#[47]⟩ (by decide) s.size s (ac _);rw[n7];omega
theorem xk(s:ByteArray):(∀j:Nat,(ls s)[j]? ≠some 47)\/∃i,i<s.size/\(ls s)[i]? =some 47/\∀j:Nat,j<i->(ls s)[j]? ≠some 47:=by
 rcases Lib.index_spec (ls s) [47]with ⟨-,h⟩ | ⟨i,-,-,h,hn⟩
 ·left
  intro j hj;have hl:=(cR.1 hj).1;have:=h j (by omega);rw[lW,hj]at this;simp at this
 ·right
  rw[lW]at h;have h':(ls s)[i]? =some 47:=by simpa using h
  have hl:=(cR.1 h').1;refine⟨i,by rw[aN]at hl;exact hl,h',fun j hj he=>?_⟩;have:=hn j hj;rw[lW,he]at this;simp at this
theorem Ep{C:ByteArray->Prop}(h1:∀s,(∀j:Nat,(ls s)[j]? ≠some 47)->C s)
  (h2:∀s i,i<s.size->(ls s)[i]? =some 47->(∀j:Nat,j<i->(ls s)[j]? ≠some 47)->C (s.extract (i+1) s.size)->C s)(s:ByteArray):C s:=by
 suffices h:∀n (t:ByteArray),t.size<=n->C t from h s.size s (ac _)
 intro n
 induction n with
 | zero=>
   intro t ht;refine h1 t fun j hj=>?_;have:=(cR.1 hj).1;rw[aN]at this;omega
 | succ n ih=>
   intro t ht;rcases xk t with h| ⟨i,hi,h,hn⟩
   ·exact h1 t h
   ·exact h2 t i hi h hn (ih _ (by rw[aj];omega))
theorem Cl(s:ByteArray):∀x∈lvs s,x.size<=s.size:=by
 induction s using Ep with
 | h1 s h=>rw[Cm h];intro x hx;simp at hx;rw[hx];exact ac _
 | h2 s i hi h hn ih=>
   rw[Er h hn];intro x hx;rcases ie.1 hx with rfl| hx
   ·rw[aj];omega
   ·have:=ih x hx;rw[aj]at this;omega
theorem P8(s:ByteArray):lvs s≠[]:=fun h=>by have:=n7 s;rw[h]at this;simp at this
def mi(x:ByteArray):Bool:=(x.toList==[43]) || (x.toList==[35])
def j8(x:ByteArray)(last:Bool):Bool:=!(((x.toList==[35])&& !last) || (!mi x&&mg x))
def jk(l:List ByteArray):Bool:=(List.range l.length).all fun i=>j8 (l.getD i ⟨#[]⟩) (decide (i+1=l.length))
def gj(s:ByteArray):Bool:=jY s&&jk (lvs s)
theorem Ct{l:List ByteArray}(h:∀i x,l[i]? =some x->j8 x (decide (i+1=l.length))=true):jk l=true:=by
 unfold jk;rw[dL];intro i hi;have hi:=gn.1 hi;rw[List.getD_eq_getElem?_getD,List.getElem?_eq_getElem hi];exact h i _ (List.getElem?_eq_getElem hi)
theorem yA{l:List ByteArray}{i:Nat}{x:ByteArray}(hx:l[i]? =some x)(h:j8 x (decide (i+1=l.length))=false):jk l=false:=by
 unfold jk;rw[List.all_eq_false];have hi:=(cR.1 hx).1;refine⟨i,gn.2 hi,?_⟩;rw[List.getD_eq_getElem?_getD,hx];simp[h]
def Ju(x:ByteArray)(last:Bool):Bool:=!((Hh (ls x) 43&& !(x.toList==[43])) || (Hh (ls x) 35&&(!(x.toList==[35]) || !last)))
theorem Gc(x:ByteArray):x.toList=ls x:=Lib.toList_data x
theorem KV(x:ByteArray)(last:Bool):Ju x last=j8 x last:=by
 unfold Ju j8 mi;rw[Ky,Gc];generalize ls x=l
 by_cases h1:l=[43]
 ·subst h1;cases last<;>rfl
 ·by_cases h2:l=[35]
  ·subst h2;cases last<;>rfl
  ·rw[ar.2 h1,ar.2 h2];cases Hh l 43<;>cases Hh l 35<;>rfl
def jt:List ByteArray->List UInt8
 | []=>[]
 | x :: l=>47 :: (ls x++jt l)
def jn:List ByteArray->List UInt8
 | []=>[]
 | x :: l=>ls x++jt l
theorem Ou:∀l m,jt (l++m)=jt l++jt m
 | [],_=>rfl
 | x :: l,m=>by rw[IJ,jt,jt,Ou l m];simp
theorem PF(l:List ByteArray)(x:ByteArray):jn (l++[x])=if l=[]then ls x else jn l++47 :: ls x:=by
 cases l with
 | nil=>simp[jn,jt]
 | cons y l=>rw[ae (by simp),IJ,jn,jn,Ou];simp[jt]
theorem On{s:ByteArray}{i:Nat}(h:(ls s)[i]? =some 47):ls s=ls (s.extract 0 i)++47 :: ls (s.extract (i+1) s.size):=by
 have e1:ls (s.extract 0 i)=(ls s).take i:=by
  show(s.extract 0 i).data.toList=_;rw[Lib.extract_from_zero];rfl
 have e2:ls (s.extract (i+1) s.size)=(ls s).drop (i+1):=by
  show(s.extract (i+1) s.size).data.toList=_;rw[Lib.extract_to_end];rfl
 obtain⟨hi,he⟩:=cR.1 h;rw[e1,e2,<-he,<-bQ hi,cg]
theorem Ov(s:ByteArray):jn (lvs s)=ls s:=by
 induction s using Ep with
 | h1 s h=>rw[Cm h];simp[jn,jt]
 | h2 s i hi h hn ih=>
   rw[Er h hn,On h];generalize hg:lvs (s.extract (i+1) s.size)=L at*;cases L with
   | nil=>exact absurd hg (P8 _)
   | cons y l=>rw[jn,jt];rw[jn]at ih;rw[ih]
end Go.Proofs.YtbdgkkmbnahgiaaGreatDoor
namespace Go.Proofs.YtbdgkkmbnahgiaaGreatDoor
open Go.RowKit Go.Shelf
open Go.Proofs.Tryz
theorem Lc(s:ByteArray)(p:Nat):s.get! p=((ls s)[p]?).getD 0:=by
 by_cases h:p<s.size
 ·rw[List.getElem?_eq_getElem (by rw[aN];exact h),Cz s p h];rfl
 ·rw[aG (by rw[aN];omega)];have h':¬p<s.data.size:=h;show s.data[p]! =_;show s.data[p]! =0;rw[Array.getElem!_eq_getD,Jf,Array.getElem?_eq_none (by omega)];rfl
theorem ix(s:ByteArray)(i:Nat):ls (s.extract 0 i)=(ls s).take i:=by
 show(s.extract 0 i).data.toList=_;rw[Lib.extract_from_zero];rfl
theorem m9(s:ByteArray)(a:Nat):ls (s.extract a s.size)=(ls s).drop a:=by
 show(s.extract a s.size).data.toList=_;rw[Lib.extract_to_end];rfl
theorem II(s:ByteArray)(a p:Nat):(s.extract a s.size).get! p=s.get! (a+p):=by
 rw[Lc,Lc,m9,List.getElem?_drop]
theorem Jj(s:ByteArray){i p:Nat}(h:p<i):(s.extract 0 i).get! p=s.get! p:=by
 rw[Lc,Lc,ix,List.getElem?_take,if_pos h]
theorem OG(s:ByteArray)(a p:Nat):Utf8.decode (s.extract a s.size) p=Utf8.decode s (a+p):=by
 rw[Lib.decode_at,Lib.decode_at,II,II,II,II,aj,show min s.size s.size- a- p=s.size- (a+p) by omega];rfl
theorem rJ(s:ByteArray)(a:Nat):(s.extract a s.size).size=s.size- a:=by rw[aj];omega
theorem Js(s:ByteArray){i:Nat}(h:i<=s.size):(s.extract 0 i).size=i:=by rw[aj];omega
theorem Lk(s:ByteArray):∀f f' pos,s.size<=pos+f->s.size<=pos+f'->xD f s pos=xD f' s pos
 | 0,0,_,_,_=>rfl
 | 0,f'+1,pos,h,_=>by rw[xD,xD,ae (by omega)]
 | f+1,0,pos,_,h=>by rw[xD,xD,ae (by omega)]
 | f+1,f'+1,pos,h,h'=>by
   rw[xD,xD]
   by_cases hp:pos<s.size
   ·rw[if_pos hp,if_pos hp];have hw:=Lib.decode_width_pos s pos hp;rw[Lk s f f' _ (by omega) (by omega)]
   ·rw[ae hp,ae hp]
theorem Ll(s:ByteArray)(a:Nat):∀f p,(xD f (s.extract a s.size) p= -1↔xD f s (a+p)= -1)
 | 0,_=>Iff.rfl
 | f+1,p=>by
   rw[xD,xD,rJ,OG]
   by_cases hp:a+p<s.size
   ·rw[if_pos (by omega),if_pos hp]
    by_cases hb:(Utf8.decode s (a+p)).1=0\/((Utf8.decode s (a+p)).1=65533/\(Utf8.decode s (a+p)).2=1)
    ·rw[if_pos hb,if_pos hb];omega
    ·rw[ae hb,ae hb,Ll s a f,Nat.add_assoc]
   ·rw[ae (by omega),ae hp]
theorem JT(s:ByteArray){pos i:Nat}(hlt:pos<i)(h:(s.get! i).toNat<128):pos+(Utf8.decode s pos).2<=i:=by
 rcases tw s pos with ⟨e,-⟩ | ⟨-,-,hj⟩
 ·rw[e];exact hlt
 ·by_cases hc:pos+(Utf8.decode s pos).2<=i
  ·exact hc
  ·have:=hj (i- pos) (by omega);rw[show pos+(i- pos)=i by omega]at this;omega
theorem Lj(s:ByteArray)(i:Nat)(hi:i<s.size)(h:(s.get! i).toNat<128):∀f pos,s.size<=pos+f->pos<=i->xD f s pos= -1->∃f',s.size<=i+f'/\xD f' s i= -1
 | 0,pos,hf,hp,_=>by omega
 | f+1,pos,hf,hp,hb=>by
   by_cases he:pos=i
   ·subst he;exact⟨f+1,hf,hb⟩
   ·have hw:=Lib.decode_width_pos s pos (by omega);have hs:=JT s (pos:=pos) (by omega) h;rw[xD,if_pos (by omega)]at hb;split at hb
    ·omega
    ·exact Lj s i hi h f _ (by omega) hs hb
theorem OE{n n' b0 b1 b2 b3 c1 c2 c3:Nat}(hb:Lib.decodeN n b0 b1 b2 b3≠(65533,1))(hw:(Lib.decodeN n b0 b1 b2 b3).2<=n')
  (h1:1<(Lib.decodeN n b0 b1 b2 b3).2->c1=b1)(h2:2<(Lib.decodeN n b0 b1 b2 b3).2->c2=b2)(h3:3<(Lib.decodeN n b0 b1 b2 b3).2->c3=b3):
  Lib.decodeN n' b0 c1 c2 c3=Lib.decodeN n b0 b1 b2 b3:=by
 rcases Lib.decodeN_shape n b0 b1 b2 b3 with ⟨e1,e⟩ | ⟨e1,e2,e3,e4,e⟩ | ⟨e1,e2,e3,e4,e5,e6,e⟩ | ⟨e1,e2,e3,e4,e5,e6,e7,e⟩ | e
 ·rw[e];unfold Lib.decodeN;rw[if_pos e1]
 ·rw[e]at hw h1⊢;rw[h1 (by simp)];exact PY e1 hw e3 e4
 ·rw[e]at hw h1 h2⊢;rw[h1 (by simp),h2 (by simp)];exact OH e1 hw e3 e4 e5 e6
 ·rw[e]at hw h1 h2 h3⊢;rw[h1 (by simp),h2 (by simp),h3 (by simp)];exact PX e1 hw e3 e4 e5 e6 e7
 ·exact absurd e hb
theorem NF(s:ByteArray){i p:Nat}(hp:p<i)(hi:i<=s.size)(hb:Utf8.decode s p≠(65533,1))(hw:p+(Utf8.decode s p).2<=i):Utf8.decode (s.extract 0 i) p=Utf8.decode s p:=by
 rw[Lib.decode_at]at hb hw;rw[Lib.decode_at,Lib.decode_at,Js s hi,Jj s hp];refine OE hb (by omega) (fun h=>?_) (fun h=>?_) (fun h=>?_)
 ·rw[Jj s (by omega)]
 ·rw[Jj s (by omega)]
 ·rw[Jj s (by omega)]
theorem Kx(s:ByteArray)(i:Nat)(hi:i<s.size)(h:(s.get! i).toNat<128):∀f pos,s.size<=pos+f->pos<=i->xD f s pos= -1->xD f (s.extract 0 i) pos= -1
 | 0,pos,hf,hp,_=>by omega
 | f+1,pos,hf,hp,hb=>by
   rw[xD,Js s (by omega)]
   by_cases he:pos=i
   ·rw[ae (by omega)]
   ·have hw:=Lib.decode_width_pos s pos (by omega);have hs:=JT s (pos:=pos) (by omega) h;rw[xD,if_pos (by omega)]at hb;rw[if_pos (by omega)];split at hb
    ·omega
    ·rename_i hn;rw[NF s (by omega) (by omega) (fun e=>hn (.inr (by rw[e];exact⟨rfl,rfl⟩))) hs,ae hn];exact Kx s i hi h f _ (by omega) hs hb
theorem KA{s:ByteArray}(hv:bN s=true){a i:Nat}(ha:a<s.size)(h1:(s.get! a).toNat<128)(h0:(s.get! a).toNat≠0)(hi:a+1+i<s.size)(h2:(s.get! (a+1+i)).toNat<128):
  bN ((s.extract (a+1) s.size).extract 0 i)=true:=by
 have hsz:=gL hv;have hb:tI s= -1:=by unfold bN at hv;simp at hv;exact hv.2
 obtain⟨f1,hf1,hb1⟩:=Lj s a ha h1 s.size 0 (by omega) (by omega) hb;obtain⟨f2,hf2,hb2⟩:∃f2,s.size<=a+1+f2/\xD f2 s (a+1)= -1:=by
  cases f1 with
  | zero=>omega
  | succ f1=>
    have hd:Utf8.decode s a=((s.get! a).toNat,1):=by
     rcases tw s a with ⟨e,-⟩ | ⟨-,-,hj⟩
     ·exact e
     ·have:=Lib.decode_width_pos s a ha;have:=hj 0 (by omega);rw[jV]at this;omega
    rw[xD,if_pos ha,hd,ae (by
     rintro (e| ⟨e,-⟩)
     ·exact h0 e
     ·simp only at e;omega)]at hb1
    exact⟨f1,by omega,hb1⟩
 have hb3:xD f2 (s.extract (a+1) s.size) 0= -1:=(Ll s (a+1) f2 0).2 hb2;have hz:=rJ s (a+1);have hb4:=Kx (s.extract (a+1) s.size) i (by omega) (by rw[II];exact h2) f2 0 (by omega) (by omega) hb3;have hz2:=Js (s.extract (a+1) s.size) (i:=i) (by omega);unfold bN;rw[hz2,au (by omega),aL];refine aK.2 ?_;unfold tI;rw[Lk _ _ f2 0 (by omega) (by omega),hb4]
def tt:List UInt8:=[36,115,104,97,114,101,47]
def gV(s:ByteArray):Bool:=tt.isPrefixOf (ls s)
def kY(s:ByteArray):ByteArray:=if gV s then s.extract 7 s.size else s
def ky(s:ByteArray):ByteArray×ByteArray×Bool:=
 if Lib.indexB s ⟨#[47]⟩= -1 then(s,⟨#[]⟩,false)else(s.extract 0 (Lib.indexB s ⟨#[47]⟩).toNat,s.extract ((Lib.indexB s ⟨#[47]⟩).toNat+1) s.size,true)
def fy(s:ByteArray):Bool:=gV s&&((ky (kY s)).2.2&&(bN s&&(fp (ky (kY s)).1&&gj (ky (kY s)).2.1)))
theorem Dc(s:ByteArray):(ky s).1.size<=s.size/\(ky s).2.1.size<=s.size:=by
 unfold ky;split
 ·exact⟨ac _,ag _⟩
 ·simp only[aj];omega
theorem Bd(s:ByteArray):(kY s).size<=s.size:=by
 unfold kY;split
 ·rw[aj];omega
 ·exact ac _
def KU(s:ByteArray):Bool:=
 bN s&&(gV s&&(decide (3<=(lvs s).length)&&((decide (((lvs s).getD 1 ⟨#[]⟩).size≠0)&& !(Hh (ls ((lvs s).getD 1 ⟨#[]⟩)) 43 || Hh (ls ((lvs s).getD 1 ⟨#[]⟩)) 35))&&gj ⟨(jn ((lvs s).drop 2)).toArray⟩)))
theorem vx{s:ByteArray}(h:gV s=true):7<=s.size/\(ls s)[6]? =some 47/\∀j,j<6->(ls s)[j]? ≠some 47:=by
 unfold gV at h;obtain⟨t,ht⟩:=List.isPrefixOf_iff_prefix.1 h;have hl:(ls s).length=7+t.length:=by rw[<-ht];simp[tt];omega
 rw[aN]at hl;refine⟨by omega,by rw[<-ht];rfl,fun j hj=>?_⟩;rw[<-ht];have:j=0\/j=1\/j=2\/j=3\/j=4\/j=5:=by omega
 rcases this with rfl| rfl| rfl| rfl| rfl| rfl<;>simp[tt]
theorem Na(s:ByteArray):KU s=fy s:=by
 unfold KU fy;cases hf:gV s
 ·simp
 cases hv:bN s
 ·simp
 simp only[aL];obtain⟨h7,h6,hn6⟩:=vx hf;have hr:kY s=s.extract 7 s.size:=if_pos hf;rw[hr,Er h6 hn6];rcases xk (s.extract 7 s.size)with hno| ⟨i,hi,hh,hno⟩
 ·have e:Lib.indexB (s.extract 7 s.size) ⟨#[47]⟩= -1:=xc hno;rw[show(6+1:Nat)=7 from rfl,Cm hno];unfold ky;rw[if_pos e];rfl
 ·have e:Lib.indexB (s.extract 7 s.size) ⟨#[47]⟩=i:=Aa hh hno;rw[show(6+1:Nat)=7 from rfl,Er hh hno];have hne:¬Lib.indexB (s.extract 7 s.size) ⟨#[47]⟩= -1:=by omega
  have hc:ky (s.extract 7 s.size)=((s.extract 7 s.size).extract 0 i,(s.extract 7 s.size).extract (i+1) (s.extract 7 s.size).size,true):=by
   unfold ky;rw[ae hne,e];rfl
  rw[hc];have hlen:3<=(s.extract 0 6 :: (s.extract 7 s.size).extract 0 i :: lvs ((s.extract 7 s.size).extract (i+1) (s.extract 7 s.size).size)).length:=by
   have:=n7 ((s.extract 7 s.size).extract (i+1) (s.extract 7 s.size).size);simp only[bM];omega
  rw[au hlen];simp only[aL,ji,cS,List.getD_cons_succ,List.getD_cons_zero];rw[Ov,Ck]
  congr 1
  have hz:=rJ s 7;have g6:s.get! 6=47:=by rw[Lc,h6];rfl
  have gi:s.get! (6+1+i)=47:=by
   rw[<-II,Lc];rw[hh];rfl
  have hvg:bN ((s.extract 7 s.size).extract 0 i)=true:=KA hv (a:=6) (by omega) (by rw[g6];decide) (by rw[g6];decide) (by omega) (by rw[gi];decide);unfold fp jY;rw[hvg,IK,Ky]
end Go.Proofs.YtbdgkkmbnahgiaaGreatDoor
namespace Go.Proofs.YtbdgkkmbnahgiaaGreatDoor
open Go.RowKit Go.Proofs.Tryz
def ir(v k:Int):Bool:=decide ((v=4\/v=5)/\8<=k/\k<=11)
def jm(k:Int):Bool:=decide (k=8\/k=10)
def pP(v k:Int):Bool:=decide (k=11/\v=4)
def sbQ(v:Int)(p:Pk):Pk:=
 if jm p.kind=true then {pk0 with kind:=p.kind,id:=p.id,props:=p.props,filters:=p.filters}
 else if pP v p.kind=true then {pk0 with kind:=p.kind,id:=p.id,props:=p.props}
 else {pk0 with kind:=p.kind,id:=p.id,props:=p.props,codes:=p.codes}
def lj(v:Int)(p:Pk):Bool:=if jm p.kind=true then decide (0<p.filters.length)else if pP v p.kind=true then true else decide (0<p.codes.length)
def eH(v:Int)(p:Pk):Bool:=!(decide (p.id<1) || (decide (65535<p.id) || (decide (v=4)&&decide (0<p.props.length))))&&(lj v p&&decide (p=sbQ v p))
def jZ(n:Int):Bool:=decide (0<=n)&&decide (n<3)
def l9(f:Fi):Bool:=decide (f=⟨f.topic,f.qos,false,false,0⟩)
def nT(v k:Int)(f:Fi):Bool:=
 if k=10 then l9 f&&decide (f.qos=0)else if v=4 then l9 f&&jZ f.qos else jZ f.qos&&(jZ f.handling&& !(fy f.topic&&f.noLocal))
def xF(v k c:Int):Bool:=if v=4 then tq c else may k c
def fiE(v k:Int):List Fi->Int
 | []=>0
 | f :: l=>if gj f.topic=false then 10 else if nT v k f=false then 2 else fiE v k l
def cdE(v k:Int):List Int->Int
 | []=>0
 | c :: l=>if xF v k c=false then 2 else cdE v k l
def xY(v:Int)(p:Pk):Bool:=ir v p.kind&&eH v p
def sbE(v:Int)(p:Pk):Int:=
 if xY v p=false then 2 else if(aM p.kind p.props).2≠0 then(aM p.kind p.props).2
 else if fiE v p.kind p.filters≠0 then fiE v p.kind p.filters else cdE v p.kind p.codes
end Go.Proofs.YtbdgkkmbnahgiaaGreatDoor
namespace Go.Proofs.YtbdgkkmbnahgiaaGreatDoor
open Go.RowKit Go.Shelf
open Go.Proofs.Tryz
def vg:Ren:=⟨fun| 138=>306| 143=>307| 195=>358| 197=>359| 217=>361| 218=>360| 219=>309| 221=>234| 224=>356| 225=>357| 260=>376| 266=>377| 267=>362| 268=>305| 314=>378| n=>n,fun| 0=>0| 3=>3| 4=>4| 5=>5| 9=>9| 21=>21| 31=>55| 46=>103| 51=>100| 105=>282| 119=>310| 138=>312| 139=>313| 146=>302| n=>n,fun| 1=>0| 3=>1| 4=>2| n=>n⟩
theorem pF:Lays.n221 prog vg where
 mixed:=by kernel_rfl
 f138:=func306.trans (congrArg some (by kernel_rfl))
 f143:=func307.trans (congrArg some (by kernel_rfl))
 f195:=func358.trans (congrArg some (by kernel_rfl))
 f197:=func359.trans (congrArg some (by kernel_rfl))
 f217:=func361.trans (congrArg some (by kernel_rfl))
 f218:=func360.trans (congrArg some (by kernel_rfl))
 f219:=func309.trans (congrArg some (by kernel_rfl))
 f221:=func234.trans (congrArg some (by kernel_rfl))
 f224:=func356.trans (congrArg some (by kernel_rfl))
 f225:=func357.trans (congrArg some (by kernel_rfl))
 f260:=func376.trans (congrArg some (by kernel_rfl))
 f266:=func377.trans (congrArg some (by kernel_rfl))
 f267:=func362.trans (congrArg some (by kernel_rfl))
 f268:=func305.trans (congrArg some (by kernel_rfl))
 f314:=func378.trans (congrArg some (by kernel_rfl))
 t0:=underlying0
 a0:=Tryz.isAgg0
 z0:=Tryz.sizeOf0
 v0:=Tryz.zeroValue0
 t3:=underlying3
 a3:=Tryz.isAgg3
 z3:=Tryz.sizeOf3
 v3:=Tryz.zeroValue3
 t4:=underlying4
 a4:=Tryz.isAgg4
 z4:=Tryz.sizeOf4
 v4:=Tryz.zeroValue4
 t5:=underlying5
 a5:=Tryz.isAgg5
 z5:=Tryz.sizeOf5
 v5:=Tryz.zeroValue5
 t9:=underlying9
 a9:=Tryz.isAgg9
 z9:=Tryz.sizeOf9
 v9:=Tryz.zeroValue9
 t21:=underlying21
 a21:=Tryz.isAgg21
 z21:=Tryz.sizeOf21
 v21:=Tryz.zeroValue21
 t31:=underlying55
 a31:=Tryz.isAgg55
 z31:=Tryz.sizeOf55
 v31:=Tryz.zeroValue55
 t46:=underlying103
 a46:=Tryz.isAgg103
 z46:=Tryz.sizeOf103
 v46:=Tryz.zeroValue103
 t51:=underlying100
 a51:=Tryz.isAgg100
 z51:=Tryz.sizeOf100
 v51:=Tryz.zeroValue100
 t105:=underlying282
 a105:=Tryz.isAgg282
 z105:=Tryz.sizeOf282
 v105:=Tryz.zeroValue282
 t119:=underlying310
 a119:=Tryz.isAgg310
 z119:=Tryz.sizeOf310
 t138:=underlying312
 a138:=Tryz.isAgg312
 z138:=Tryz.sizeOf312
 v138:=Tryz.zeroValue312
 t139:=underlying313
 a139:=Tryz.isAgg313
 z139:=Tryz.sizeOf313
 v139:=Tryz.zeroValue313
 t146:=underlying302
 a146:=Tryz.isAgg302
 z146:=Tryz.sizeOf302
 v146:=Tryz.zeroValue302
 g1:=by kernel_rfl
 g3:=by kernel_rfl
 g4:=by kernel_rfl
theorem vl:(prog.info? 9).map (fun i=>(i.zero,i.size,i.bytes))=some (some (.string ByteArray.empty),1,16):=by kernel_rfl
def sv(l:List ByteArray):List Value:=l.map Value.string
theorem AW(l:List ByteArray):(sv l).length=l.length:=by simp[sv]
theorem EB(x:ByteArray)(w:World):Calls prog 307 #[.string x,.string ⟨#[47]⟩] w fun e w'=>e= .returned (.int .i64 (Lib.indexB x ⟨#[47]⟩))/\w'=w:=by
 have c:Calls prog 307 #[.string x,.string ⟨#[47]⟩] w fun e w'=>e= .returned (.int .i64 (Lib.indexByte x.data.toList 47))/\w'=w:=Any.strings_Index_one {pF with} x 47 w;rw[<-Lib.index_one]at c;exact c
theorem vo(x:ByteArray)(w:World):Calls prog 309 #[.string x,.string ⟨#[47]⟩] w fun e w'=>e= .returned (.int .i64 (Lib.indexB x ⟨#[47]⟩))/\w'=w:=by
 have c:Calls prog 309 #[.string x,.string ⟨#[47]⟩] w fun e w'=>e= .returned (.int .i64 (Lib.indexByte x.data.toList 47))/\w'=w:=Any.stringslite_Index_one {pF with} x 47 w;rw[<-Lib.index_one]at c;exact c
theorem EN(x:ByteArray)(w:World):Calls prog 306 #[.string x,.string ⟨#[47]⟩] w fun e w'=>e= .returned (.int .i64 (Lib.countB x ⟨#[47]⟩))/\w'=w:=by
 have c:Calls prog 306 #[.string x,.string ⟨#[47]⟩] w fun e w'=>e= .returned (.int .i64 (Lib.countByte x.data.toList 47))/\w'=w:=Any.strings_Count_one {pF with} x 47 w;refine c.mono fun e w' ⟨he,hw⟩=>⟨?_,hw⟩;rw[he];show _=Ending.returned (Value.int .i64 ((Lib.count x.data.toList [47]:Nat):Int));rw[Lib.count_one];rfl
theorem zd(s:ByteArray)(w:World)(hs:s.size<4294967281):
  Calls prog 174 #[.string s,.string ⟨#[47]⟩] w fun e w'=>e= .returned (.slice (some ⟨w.heap.size,0,none⟩) (lvs s).length (lvs s).length)/\w'=w.alloc (.cells (sv (lvs s)).toArray 9):=by
 have hle:=Lib.countB_le ⟨#[47]⟩ (by decide) s.size s (ac _);have c:Calls prog 234 #[.string s,.string ⟨#[47]⟩,.int .i64 ((0:Nat):Int),.int .i64 (-1)] w _:=Any.strings_genSplit_core pF vl s ⟨#[47]⟩ 0 (-1) (Lib.countB s ⟨#[47]⟩+1) w hs (by decide) (ag _) (fun x c _=>EB x _) (EN s w) (by decide) (by decide) (by rw[if_pos (by decide)];omega);rw[Nat.add_sub_cancel]at c;have e2:Lib.cellsOf (Lib.splitB ⟨#[47]⟩ 0 (Lib.countB s ⟨#[47]⟩) s) (Lib.countB s ⟨#[47]⟩+1)=(sv (lvs s)).toArray:=by rw[<-n7 s];exact Lib.cellsOf_full _
 rw[e2]at c;have e3:(Lib.splitB ⟨#[47]⟩ 0 (Lib.countB s ⟨#[47]⟩) s).length=(lvs s).length:=rfl;rw[e3,<-n7 s]at c;clear hle e2 e3 hs;generalize lvs s=l at*;go_enter func174,ntmps174
 go_wp2_with fail
 refine c.mono ?_;rintro e w1 ⟨rfl,rfl⟩;go_wp2;go_ret;exact⟨rfl,rfl⟩
theorem vf(s:ByteArray)(w:World)(hs:s.size<4294967281):
  Calls prog 120 #[.string s] w fun e w'=>e= .returned (.slice (some ⟨w.heap.size,0,none⟩) (lvs s).length (lvs s).length)/\w'=w.alloc (.cells (sv (lvs s)).toArray 9):=by
 have c:=zd s w hs;generalize lvs s=l at*;go_enter func120,ntmps120
 go_wp2_with fail
 refine c.mono ?_;rintro e w1 ⟨rfl,rfl⟩;go_wp2;go_ret;exact⟨rfl,rfl⟩
theorem tS(x:ByteArray)(w:World):
  Calls prog 172 #[.string x] w fun e w'=>e= .returned (.bool (mi x))/\w=w':=by
 have HW:Hid (mi x=((x.toList==[43]) || (x.toList==[35]))):=aa rfl;go_enter func172,ntmps172;cases h1:(x.toList==[43])
 ·have HX:Hid (mi x=(x.toList==[35])):=aa (by rw[HW.o,h1,nB]);go_wp2;go_ret;exact⟨by rw[HX.o];rfl,rfl⟩
 ·have HX:Hid (mi x=true):=aa (by rw[HW.o,h1,Bool.true_or]);go_wp2;go_ret;exact⟨by rw[HX.o];rfl,rfl⟩
theorem oc{l:List ByteArray}{k:Nat}{x:ByteArray}(hx:l[k]? =some x)(h:j8 x (decide (k+1=l.length))=true)(ha:∀(j:Nat) (y:ByteArray),j<k->l[j]? =some y->j8 y (decide (j+1=l.length))=true):
  ∀(j:Nat) (y:ByteArray),j<k+1->l[j]? =some y->j8 y (decide (j+1=l.length))=true:=by
 intro j y hj hy;rcases dx.1 hj with h1| rfl
 ·exact ha j y h1 hy
 ·rw[hx]at hy;obtain rfl:=Option.some.inj hy;exact h
theorem Cu{l:List ByteArray}(ha:∀(j:Nat) (y:ByteArray),j<l.length->l[j]? =some y->j8 y (decide (j+1=l.length))=true):jk l=true:=
 Ct fun i x hx=>ha i x (cR.1 hx).1 hx
theorem Gd{w:World}{B n:Nat}{A:Option Addr}{l:List ByteArray}(h:Rd w B 1 A n (sv l)){i:Nat}(hi:i<n):∃b o x,A=some ⟨b,o,none⟩/\b<B/\l[i]? =some x/\w.cell? ⟨b,o+i,none⟩=some (.string x):=by
 obtain⟨b,o,u,e,hb,hu,hc⟩:=h.at1 hi;have hl:i<l.length:=by have:=h.len;rw[AW]at this;omega
 refine⟨b,o,l[i],e,hb,List.getElem?_eq_getElem hl,?_⟩;have:u= .string l[i]:=by simpa [sv,hl]using hu.symm
 rw[<-this];exact hc
theorem wW(A:Option Addr)(n c:Nat)(l:List ByteArray)(w:World)(hn:l.length=n)(h:Rd w w.heap.size 1 A n (sv l))(hsz:∀x∈l,x.size<=65535)(hn2:n<=4611686018427387904):
  Calls prog 119 #[.slice A n c] w fun e w'=>e= .returned (.bool (jk l))/\Below w.heap.size w w':=by
 have E1:=aa hn;have HL:=aa h;have HS:=aa hsz
 clear hn h hsz;go_enter func119,ntmps119;go_wp2
 go_loopw [8] (fun i wr=>∃k:Nat,k<=n/\i= .int .i64 k/\(∀(j:Nat) (y:ByteArray),j<k->l[j]? =some y->j8 y (decide (j+1=l.length))=true)/\Below w.heap.size w wr) (fun i _=>n- (intOf i).toNat)
 case atStart=>exact⟨0,by omega,rfl,fun j x hj=>by omega,aq _ _⟩
 case round=>
  obtain⟨k,hk,rfl,hall,hbel⟩:=hrel;have HA:=aa hall;have HB:=aa hbel;clear hall
  by_cases hlt:k<n
  ·obtain⟨b,o,x,rfl,hb,hx,hc⟩:=Gd (HL.o.below hbel) hlt;have HX:=aa hx;have HXS:=aa (HS.o x (iL hx));obtain⟨d,hd⟩:∃d,decide (k+1=l.length)=d:=⟨_,rfl⟩;have hlast:((k:Int)+1==(n:Int))=d:=by
    rw[<-hd,E1.o,eG,aK,cH];omega
   have HD:=aa hd;have b1:(0:Int)<=(k:Int):=by omega
   have b2:(k:Int)<(n:Int):=by omega
   have HV:Hid (j8 x d= !(((x.toList==[35])&& !d) || (!mi x&&mg x))):=aa rfl;clear hx hd hbel;cases h35:(x.toList==[35])
   ·have HV1:Hid (j8 x d= !(!mi x&&mg x)):=aa (by rw[HV.o,h35];rfl)
    go_wp2_with fail
    refine(tS x _).mono ?_;rintro e w1 ⟨rfl,rfl⟩;cases hw:mi x
    ·have HV2:Hid (j8 x d= !mg x):=aa (by rw[HV1.o,hw];rfl);clear hw
     go_wp2_with fail
     refine(kW x _ HXS.o).mono ?_;rintro e w2 ⟨rfl,hb2⟩;have HB2:=aa (HB.o.trans (hb2.mono HB.o.size));clear hb2
     cases ha:mg x
     ·have HV3:Hid (j8 x (decide (k+1=l.length))=true):=aa (by rw[HD.o,HV2.o,ha];rfl);clear ha;go_wp2
      go_roundw
      case rel=>exact⟨k+1,by omega,by go_num,oc HX.o HV3.o HA.o,HB2.o⟩
      case measure=>simp[intOf];omega
     ·have HV3:Hid (jk l=false):=aa (yA HX.o (by rw[HD.o,HV2.o,ha];rfl));clear ha;go_wp2;go_ret;exact⟨by rw[HV3.o];rfl,HB2.o⟩
    ·have HV3:Hid (j8 x (decide (k+1=l.length))=true):=aa (by rw[HD.o,HV1.o,hw];rfl);clear hw;go_wp2
     go_roundw
     case rel=>exact⟨k+1,by omega,by go_num,oc HX.o HV3.o HA.o,HB.o⟩
     case measure=>simp[intOf];omega
   ·cases d
    ·have HV3:Hid (jk l=false):=aa (yA HX.o (by rw[HD.o,HV.o,h35];rfl));go_wp2;go_ret;exact⟨by rw[HV3.o];rfl,HB.o⟩
    ·have HWX:Hid (mi x=true):=aa (by unfold mi;rw[h35,Bool.or_true]);have HV3:Hid (j8 x (decide (k+1=l.length))=true):=aa (by rw[HD.o,HV.o,HWX.o,Ra,ru];rfl)
     go_wp2_with fail
     refine(tS x _).mono ?_;rintro e w1 ⟨rfl,rfl⟩;rw[HWX.o];go_wp2
     go_roundw
     case rel=>exact⟨k+1,by omega,by go_num,oc HX.o HV3.o HA.o,HB.o⟩
     case measure=>simp[intOf];omega
  ·obtain rfl:k=n:=by omega
   have HV3:Hid (jk l=true):=aa (Cu (fun j y hj=>HA.o j y (by have:=E1.o;omega)));go_wp2;go_ret;exact⟨by rw[HV3.o];rfl,hbel⟩
theorem Ft(w:World)(l:List ByteArray):Rd (w.alloc (.cells (sv l).toArray 9)) (w.alloc (.cells (sv l).toArray 9)).heap.size 1 (some ⟨w.heap.size,0,none⟩) l.length (sv l):=by
 have h:=Rd.fresh w (sv l).toArray 9;simp only[ey]at h⊢
 simpa [AW]using h
theorem qB(s:ByteArray)(w:World)(hs:s.size<=4611686018427387904):
  Calls prog 76 #[.string s] w fun e w'=>e= .returned (.bool (gj s))/\Below w.heap.size w w':=by
 have HS:=aa hs;have HF:Hid (gj s=(jY s&&jk (lvs s))):=aa rfl;clear hs;go_enter func76,ntmps76
 go_wp2_with fail
 refine(rH s _ HS.o).mono ?_;rintro e w1 ⟨rfl,hb⟩;have HB:=aa hb;clear hb
 cases ht:jY s
 ·have HX:Hid (gj s=false):=aa (by rw[HF.o,ht];rfl);clear ht;go_wp2;go_ret;exact⟨by rw[HX.o];rfl,HB.o⟩
 have HX:Hid (gj s=jk (lvs s)):=aa (by rw[HF.o,ht,aL]);have HV:Hid (s.size<=65535):=aa (gL (by unfold jY at ht;rw[eh]at ht;exact ht.2));clear ht HF;have HLS:Hid (∀x∈lvs s,x.size<=65535):=aa fun x hx=>aC (Cl s x hx) HV.o;have HLL:Hid ((lvs s).length<=4611686018427387904):=aa (by have:=Eo s;have:=HV.o;omega)
 go_wp2_with fail
 refine(vf s _ (by have:=HV.o;omega)).mono ?_;rintro e w2 ⟨rfl,rfl⟩;generalize lvs s=l at*;have HR:=aa (Ft w1 l);have HB2:=aa (HB.o.alloc HB.o.size (.cells (sv l).toArray 9));generalize w1.alloc (.cells (sv l).toArray 9)=W at*;generalize w1.heap.size=g at*
 go_wp2_with fail
 refine(wW _ _ _ l _ rfl HR.o HLS.o HLL.o).mono ?_;rintro e w3 ⟨rfl,hb⟩;have HB3:=aa (HB2.o.trans (hb.mono HB2.o.size));clear hb
 go_wp2;go_ret;exact⟨by rw[HX.o];rfl,HB3.o⟩
theorem sg(s:ByteArray):gV s=(decide (7<=s.size)&&((s.extract 0 7).toList==[36,115,104,97,114,101,47])):=by
 rw[Gc,ix];unfold gV
 by_cases h:7<=s.size
 ·rw[au h,aL,eG,List.isPrefixOf_iff_prefix,aK,List.prefix_iff_eq_take];exact eq_comm
 ·rw[ah h,bj,Bool.eq_false_iff];intro hp;have:=(List.isPrefixOf_iff_prefix.1 hp).length_le;rw[aN]at this;simp[tt]at this;omega
theorem rl(s:ByteArray)(w:World)(hs:s.size<=4611686018427387904):
  Calls prog 308 #[.string s,.string ⟨#[36,115,104,97,114,101,47]⟩] w fun e w'=>e= .returned (.bool (gV s))/\w=w':=by
 by_cases h:7<=s.size
 ·have h':(7:Int)<=(s.size:Int):=by omega
  have HF:Hid (gV s=((s.extract 0 7).toList==[36,115,104,97,114,101,47])):=aa (by rw[sg,au h,aL]);clear h;go_enter func308,ntmps308;go_wp2;go_ret;exact⟨by rw[HF.o];rfl,rfl⟩
 ·have h':¬(7:Int)<=(s.size:Int):=by omega
  have HF:Hid (gV s=false):=aa (by rw[sg,ah h,bj]);clear h;go_enter func308,ntmps308;go_wp2;go_ret;exact⟨by rw[HF.o];rfl,rfl⟩
theorem xh{s:ByteArray}(h:gV s=true):7<=s.size:=(vx h).1
theorem qF(s:ByteArray)(w:World)(hs:s.size<=4611686018427387904):
  Calls prog 235 #[.string s,.string ⟨#[36,115,104,97,114,101,47]⟩] w fun e w'=>e= .returned (.tuple #[.string (kY s),.bool (gV s)])/\w=w':=by
 have HS:=aa hs;clear hs
 go_enter func235,ntmps235
 go_wp2_with fail
 refine(rl s _ HS.o).mono ?_;rintro e w1 ⟨rfl,rfl⟩;cases hf:gV s
 ·have HFB:=aa hf;have HX:Hid (kY s=s):=aa (by unfold kY;rw[hf];rfl);clear hf;go_wp2;go_ret2;exact⟨by rw[HX.o,HFB.o];rfl,rfl⟩
 ·have HFB:=aa hf;have HX:Hid (kY s=s.extract 7 s.size):=aa (by unfold kY;rw[hf];rfl);have h7:(7:Int)<=(s.size:Int):=by have:=xh hf;omega
  clear hf;go_wp2;go_ret2;exact⟨by rw[HX.o,HFB.o];rfl,rfl⟩
theorem rq(s:ByteArray)(w:World)(hs:s.size<=4611686018427387904):
  Calls prog 175 #[.string s,.string ⟨#[36,115,104,97,114,101,47]⟩] w fun e w'=>e= .returned (.tuple #[.string (kY s),.bool (gV s)])/\w=w':=by
 have HS:=aa hs;clear hs
 go_enter func175,ntmps175
 go_wp2_with fail
 refine(qF s _ HS.o).mono ?_;rintro e w1 ⟨rfl,rfl⟩;go_wp2;go_ret2;exact⟨rfl,rfl⟩
theorem De(s:ByteArray)(w:World)(hs:s.size<=4611686018427387904):
  Calls prog 236 #[.string s,.string ⟨#[47]⟩] w fun e w'=>e= .returned (.tuple #[.string (ky s).1,.string (ky s).2.1,.bool (ky s).2.2])/\Below w.heap.size w w':=by
 rcases Lib.indexB_cases s ⟨#[47]⟩with hix| ⟨i,hix,hroom⟩
 ·have HX:Hid (ky s=(s,⟨#[]⟩,false)):=aa (by unfold ky;rw[if_pos hix]);have HI:=aa hix;clear hix;go_enter func236,ntmps236
  go_wp2_with fail
  refine(vo s _).mono ?_;rintro e w1 ⟨rfl,rfl⟩;rw[HI.o];go_wp2;go_ret3;exact⟨by rw[HX.o];rfl,aq _ _⟩
 ·have HX:Hid (ky s=(s.extract 0 i,s.extract (i+1) s.size,true)):=aa (by
   unfold ky;rw[ae (by omega),hix];rfl)
  have HI:=aa hix;have hz:(⟨#[47]⟩:ByteArray).size=1:=rfl;rw[hz]at hroom;have c1:(0:Int)<=(i:Int):=by omega
  have c2:(i:Int)<=(s.size:Int):=by omega
  have c3:(0:Int)<=(i:Int)+1:=by omega
  have c4:(i:Int)+1<=(s.size:Int):=by omega
  clear hix hz hroom;go_enter func236,ntmps236
  go_wp2_with fail
  refine(vo s _).mono ?_;rintro e w1 ⟨rfl,rfl⟩;rw[HI.o];go_wp2
  go_region
  go_wp2;go_ret3;exact⟨by rw[HX.o];rfl,aV (aq _ _) _⟩
theorem EL(s:ByteArray)(w:World)(hs:s.size<=4611686018427387904):
  Calls prog 176 #[.string s,.string ⟨#[47]⟩] w fun e w'=>e= .returned (.tuple #[.string (ky s).1,.string (ky s).2.1,.bool (ky s).2.2])/\Below w.heap.size w w':=by
 have HS:=aa hs;clear hs
 go_enter func176,ntmps176
 go_wp2_with fail
 refine(De s _ HS.o).mono ?_;rintro e w1 ⟨rfl,hb⟩;have HB:=aa hb;clear hb
 go_wp2;go_ret3;exact⟨rfl,HB.o⟩
def AK(s:ByteArray)(w:World)(e:Ending)(w':World):Prop:=(∃a b:ByteArray,e= .returned (.tuple #[.string a,.string b,.bool (fy s)]))/\Below w.heap.size w w'
theorem wo(s:ByteArray)(w:World)(hs:s.size<=4611686018427387904):
  Calls prog 122 #[.string s] w (AK s w):=by
 have HS:=aa hs;have HZ:=aa (Bd s);have HC:=aa (Dc (kY s));have HE:Hid (fy s=(gV s&&((ky (kY s)).2.2&&(bN s&&(fp (ky (kY s)).1&&gj (ky (kY s)).2.1))))):=aa rfl;clear hs;go_enter func122,ntmps122
 go_wp2_with fail
 refine(rq s _ HS.o).mono ?_;rintro e w1 ⟨rfl,rfl⟩
 go_wp2_with fail
 refine(EL (kY s) _ (by have:=HS.o;have:=HZ.o;omega)).mono ?_;rintro e w1 ⟨rfl,hb⟩;have HB:=aa hb;clear hb
 obtain⟨R,hR⟩:∃R,ky (kY s)=R:=⟨_,rfl⟩;rw[hR]at HC HE⊢;clear hR;generalize kY s=r at*;obtain⟨x,y,z⟩:=R;simp only at HC HE⊢;cases hf:gV s
 ·have HX:Hid (fy s=false):=aa (by rw[HE.o,hf];rfl);clear hf;go_wp2;go_ret3;exact⟨⟨_,_,by rw[HX.o];rfl⟩,HB.o⟩
 have HE1:Hid (fy s=(z&&(bN s&&(fp x&&gj y)))):=aa (by rw[HE.o,hf,aL]);clear hf;cases z
 ·have HX:Hid (fy s=false):=aa (by rw[HE1.o];rfl);go_wp2;go_ret3;exact⟨⟨_,_,by rw[HX.o];rfl⟩,HB.o⟩
 go_wp2_with fail
 refine(fk s _ HS.o).mono ?_;rintro e w2 ⟨rfl,hb⟩;have HB2:=aa (HB.o.trans (hb.mono HB.o.size));clear hb
 cases hv:bN s
 ·have HX:Hid (fy s=false):=aa (by rw[HE1.o,hv];rfl);clear hv;go_wp2;go_ret3;exact⟨⟨_,_,by rw[HX.o];rfl⟩,HB2.o⟩
 have HE2:Hid (fy s=(fp x&&gj y)):=aa (by rw[HE1.o,hv,aL,aL]);clear hv
 go_wp2_with fail
 refine(lw x _ (by have:=HS.o;have:=HZ.o;have:=HC.o.1;omega)).mono ?_;rintro e w3 ⟨rfl,hb⟩;have HB3:=aa (HB2.o.trans (hb.mono HB2.o.size));clear hb
 cases hn:fp x
 ·have HX:Hid (fy s=false):=aa (by rw[HE2.o,hn];rfl);clear hn;go_wp2;go_ret3;exact⟨⟨_,_,by rw[HX.o];rfl⟩,HB3.o⟩
 have HE3:Hid (fy s=gj y):=aa (by rw[HE2.o,hn,aL]);clear hn
 go_wp2_with fail
 refine(qB y _ (by have:=HS.o;have:=HZ.o;have:=HC.o.2;omega)).mono ?_;rintro e w4 ⟨rfl,hb⟩;have HB4:=aa (HB3.o.trans (hb.mono HB3.o.size));clear hb
 cases hn:gj y
 ·have HX:Hid (fy s=false):=aa (by rw[HE3.o,hn]);clear hn;go_wp2;go_ret3;exact⟨⟨_,_,by rw[HX.o];rfl⟩,HB4.o⟩
 have HX:Hid (fy s=true):=aa (by rw[HE3.o,hn]);clear hn;go_wp2;go_ret3;exact⟨⟨_,_,by rw[HX.o];rfl⟩,HB4.o⟩
end Go.Proofs.YtbdgkkmbnahgiaaGreatDoor
