/- A part of what the laws stand on: MsP, OpenK, PkS, MqL, MsF, MsG, MsH, Laid, MsI. -/
import Derived.Test.YtpcleamaieaefaaGreatDoorMeG0MqF
import Derived.OwnWalk
import Derived.Test.YtpcleamaieaefaaGreatDoorCards
import Derived.Test.YtpcleamaieaefaaGreatDoorTie
import Derived.ChangeVars
import Derived.LaidLaws
import Derived.LaidHandle
import Derived.SevenTiedAt
set_option maxRecDepth 10000
set_option maxHeartbeats 8000000
namespace Go.Proofs.YtpcleamaieaefaaGreatDoor
open Go.RowKit
theorem yb:∀(l m:List UInt8) (n k:Nat),(rv l n k).2.2≠3→rv (l++m) n k=rv l n k
 | [],m,n,k,h=>absurd rfl h
 | b :: l,m,n,k,h=>by
   rw[IJ,rv,rv];rw[rv]at h
   split
   ·rename_i hb;rw[if_pos hb]at h
    split
    ·rfl
    ·rename_i hk;rw[ae hk]at h;exact yb l m _ _ h
   ·rfl
theorem ui:∀(l:List UInt8) (n k:Nat),k≤3→(rv l n k).2.2=3→l.length+k≤3
 | [],n,k,hk,_=>by simpa using hk
 | b :: l,n,k,hk,h=>by
   rw[rv]at h
   split at h
   ·split at h
    ·simp at h
    ·have:=ui l _ (k+1) (by omega) h;rw[bM];omega
   ·split at h
    ·simp at h
    ·simp at h
theorem nd {v:Int} {s u:ByteArray} (h:(hdR v s).2.2≠3):hdR v (s++u)=hdR v s:=by
 unfold hdR at h⊢
 by_cases hk:ba v=false
 ·simp only[if_pos hk]
 by_cases hz:s.size=0
 ·rw[ae hk,if_pos hz]at h;exact absurd rfl h
 have hz':(s++u).size≠0:=by rw[cK];omega
 have hb:cU (s++u)=cU s:=by
  unfold cU;rw[fe];cases hl:ls s with
  | nil=>exact absurd (by rw[←aN,hl];rfl) hz
  | cons x l=>rfl
 have hr:ls ((s++u).extract 1 (s++u).size)=ls (s.extract 1 s.size)++ls u:=by
  rw[jP,jP,fe,List.drop_append_of_le_length (by rw[aN];omega)]
 rw[ae hk,ae hz]at h;rw[ae hk,ae hz',ae hk,ae hz,hb,hr]
 by_cases hc:ff v (cU s/ 16:Nat) (cU s% 16:Nat)≠0
 ·rw[if_pos hc,if_pos hc]
 rw[ae hc]at h;rw[ae hc,ae hc];have hrv:(bm (ls (s.extract 1 s.size))).2.2≠3:=by
  intro e;rw[if_pos (by rw[e];decide)]at h;exact h e
 rw[show bm (ls (s.extract 1 s.size)++ls u)=bm (ls (s.extract 1 s.size))from yb _ (ls u) 0 0 hrv]
theorem Ad (v k f:Int):ff v k f≠3:=by
 unfold ff;cases ba v<;>cases dS v k<;>cases eu k f<;>simp
theorem sf {v:Int} {s:ByteArray} (h:(hdR v s).2.2=3):s.size≤4:=by
 unfold hdR at h
 split at h
 ·simp at h
 split at h
 ·omega
 split at h
 ·exact absurd h (Ad _ _ _)
 split at h
 ·have:=ui _ 0 0 (by omega) h;rw[jP,bU,aN]at this;omega
 ·simp at h
theorem Cy (v:Int) (t:ByteArray):hdR v (t.extract 0 (min t.size 5))=hdR v t:=by
 by_cases h:t.size≤5
 ·congr 1
  apply eX;rw[ix,bt (by rw[aN];omega)]
 ·have e3:(hdR v (t.extract 0 5)).2.2≠3:=fun e=>by
   have:=sf e;rw[aj]at this;omega
  have hs:t.extract 0 5++t.extract 5 t.size=t:=eX (by rw[fe,ix,m9,cg]);have:=nd (u:=t.extract 5 t.size) e3;rw[hs]at this;rw[show min t.size 5=5 by omega,this]
theorem ED {v:Int} {t:ByteArray} (h:(hdR v t).2.2=0) {z:Nat} (hz:(hdR v t).2.1≤z):hdR v (t.extract 0 z)=hdR v t:=by
 obtain⟨b1,b2,b3,b4,b5⟩:=kw (v:=v) (s:=t) (h:=(hdR v t).1) (a:=(hdR v t).2.1) (by rw[←h]);have:=Ab b1 b2 (s:=t.extract 0 z) (R:=((ls t).drop (hdR v t).2.1).take (z- (hdR v t).2.1)) (by
  rw[ix]
  conv=>lhs;rw[b3]
  rw[ot,bt (by omega),←b4])
 rw[this,←b4,←h]
def hdZ (v:Int) (t:ByteArray):Nat:=(hdR v t).2.1+(hdR v t).1.n
theorem AZ (v:Int) (t:ByteArray):smZ v t=if(hdR v t).2.2≠0 then(0,(hdR v t).2.2)else(hdZ v t,0):=by
 unfold smZ;rw[Cy];rfl
theorem nI (v most:Int) (t:ByteArray):smN v most t=if(hdR v t).2.2≠0 then(pk0,0,(hdR v t).2.2)else if most<(hdZ v t:Nat)then(pk0,0,4)else if t.size<hdZ v t then(pk0,0,3)else mqR v (t.extract 0 (hdZ v t)):=by
 unfold smN;rw[AZ]
 by_cases h:(hdR v t).2.2≠0
 ·rw[if_pos h,if_pos h];exact(if_pos h).symm
 ·rw[ae h,ae h];exact ae (fun x=>x rfl)
theorem uW {v:Int} {t:ByteArray} (h:(hdR v t).2.2=0) (hs:hdZ v t≤t.size):(mqR v (t.extract 0 (hdZ v t))).2.2≠3∧((mqR v (t.extract 0 (hdZ v t))).2.2=0→(mqR v (t.extract 0 (hdZ v t))).2.1=hdZ v t):=by
 have e:=ED h (z:=hdZ v t) (iX _ _);have hz:(t.extract 0 (hdZ v t)).size=hdZ v t:=by rw[aj];omega
 unfold mqR;rw[e,ae (fun x=>x h),ae (by rw[hz];exact Nat.lt_irrefl _)];generalize chR v (hdR v t).1 ((t.extract 0 (hdZ v t)).extract (hdR v t).2.1 ((hdR v t).2.1+(hdR v t).1.n))=r
 split
 ·exact⟨by simp,fun _=>rfl⟩
 ·rename_i h0;refine⟨?_,fun h1=>?_⟩
  ·dsimp only
   split
   ·decide
   ·assumption
  ·dsimp only at h1
   split at h1
   ·cases h1
   ·exact absurd h1 h0
theorem nH {v most:Int} {t:ByteArray} (h:(smN v most t).2.2=3):(hdR v t).2.2=3∨((hdR v t).2.2=0∧(hdZ v t:Int)≤most∧t.size<hdZ v t):=by
 rw[nI]at h
 split at h
 ·exact .inl h
 rename_i h1;have h1:=il.1 h1
 split at h
 ·simp at h
 rename_i h2
 split at h
 ·rename_i h3;exact .inr ⟨h1,by omega,h3⟩
 ·rename_i h3;exact absurd h (uW h1 (by omega)).1
theorem nG {v most:Int} {t:ByteArray} (h:(hdR v t).2.2=3∨((hdR v t).2.2=0∧(hdZ v t:Int)≤most∧t.size<hdZ v t)):(smN v most t).2.2=3:=by
 rw[nI];rcases h with h| ⟨h1,h2,h3⟩
 ·rw[if_pos (by rw[h];decide)];exact h
 ·rw[ae (fun x=>x h1),ae (by omega),if_pos h3]
theorem tZ {v most:Int} {t u:ByteArray} (h:(smN v most t).2.2≠3):smN v most (t++u)=smN v most t:=by
 have he:(hdR v t).2.2≠3:=fun e=>h (nG (.inl e));have hh:=nd (u:=u) he;have hz:hdZ v (t++u)=hdZ v t:=by unfold hdZ;rw[hh]
 rw[nI v most t]at h;rw[nI,nI,hz,hh]
 by_cases h1:(hdR v t).2.2≠0
 ·rw[if_pos h1,if_pos h1]
 rw[ae h1]at h;rw[ae h1,ae h1]
 by_cases h2:most<(hdZ v t:Nat)
 ·rw[if_pos h2,if_pos h2]
 rw[ae h2]at h;rw[ae h2,ae h2]
 by_cases h3:t.size<hdZ v t
 ·rw[if_pos h3]at h;exact absurd rfl h
 rw[ae h3,ae (by rw[cK];omega)]
 congr 1
 apply eX;rw[ix,ix,fe,eW (by rw[aN];omega)]
theorem Ba (v most:Int):∀(f f':Nat) (t:ByteArray) (a k:Nat) (l:List Pk),t.size<f→t.size<f'→smF v most f t a k l=smF v most f' t a k l
 | 0,_,_,_,_,_,h,_=>absurd h (by omega)
 | _+1,0,_,_,_,_,_,h=>absurd h (by omega)
 | f+1,f'+1,t,a,k,l,h,h'=>by
   rw[mU,mU]
   split
   ·rename_i h0;have:=jD h0;exact Ba v most f f' _ _ _ _ (by rw[aj];omega) (by rw[aj];omega)
   ·rfl
def smG (v most:Int) (t:ByteArray) (a k:Nat) (l:List Pk):List Pk×ByteArray×Nat×Nat×Int:=smF v most (t.size+1) t a k l
theorem fK (v most:Int) (t:ByteArray) (a k:Nat) (l:List Pk):smG v most t a k l=
  if(smN v most t).2.2=0 then smG v most (t.extract (smN v most t).2.1 t.size) (a+(smN v most t).2.1) (k+1) (l++[(smN v most t).1])
  else if(smN v most t).2.2=3 then(l,t,a,k,0)
  else(l,⟨#[]⟩,a,k,(smN v most t).2.2):=by
 unfold smG;rw[mU]
 split
 ·rename_i h0;have:=jD h0;exact Ba v most _ _ _ _ _ _ (by rw[aj];omega) (ed _)
 ·rfl
theorem pi (v most:Int):∀(N:Nat) (t:ByteArray) (a k:Nat) (l:List Pk),t.size≤N→smG v most t a k l=
  (l++(smG v most t 0 0 []).1,(smG v most t 0 0 []).2.1,a+(smG v most t 0 0 []).2.2.1,k+(smG v most t 0 0 []).2.2.2.1,(smG v most t 0 0 []).2.2.2.2)
 | N,t,a,k,l,hN=>by
   rw[fK v most t a k l,fK v most t 0 0 []]
   split
   ·rename_i h0;have h1:=jD h0;have hx:(t.extract (smN v most t).2.1 t.size).size=t.size- (smN v most t).2.1:=by rw[aj];omega
    match N,hN with
    | 0,hN=>omega
    | N+1,hN=>
      rw[pi v most N _ (a+(smN v most t).2.1) (k+1) (l++[(smN v most t).1]) (by omega),pi v most N _ (0+(smN v most t).2.1) (0+1) ([]++[(smN v most t).1]) (by omega)];simp only[List.append_assoc,dX,bV,Nat.add_assoc]
   ·split
    ·simp
    ·simp
theorem sH (v most:Int) (u:ByteArray):∀(N:Nat) (t:ByteArray) (a k:Nat) (l:List Pk),t.size≤N→smG v most (t++u) a k l=
  if(smG v most t a k l).2.2.2.2=0 then smG v most ((smG v most t a k l).2.1++u) (smG v most t a k l).2.2.1 (smG v most t a k l).2.2.2.1 (smG v most t a k l).1 else smG v most t a k l
 | N,t,a,k,l,hN=>by
   by_cases h0:(smN v most t).2.2=0
   ·have e:smN v most (t++u)=smN v most t:=tZ (by rw[h0];decide);have h1:=jD h0;have hx:(t.extract (smN v most t).2.1 t.size).size=t.size- (smN v most t).2.1:=by rw[aj];omega
    have hc:(t++u).extract (smN v most t).2.1 (t++u).size=t.extract (smN v most t).2.1 t.size++u:=eX (by
     rw[m9,fe,fe,m9,List.drop_append_of_le_length (by rw[aN];exact h1.2)])
    rw[fK v most (t++u),e,if_pos h0,fK v most t a k l,if_pos h0,hc]
    match N,hN with
    | 0,hN=>omega
    | N+1,hN=>exact sH v most u N _ _ _ _ (by omega)
   ·by_cases h3:(smN v most t).2.2=3
    ·rw[fK v most t a k l,ae h0,if_pos h3];exact(if_pos rfl).symm
    ·have e:=tZ (u:=u) h3;rw[fK v most (t++u),e,ae h0,ae h3,fK v most t a k l,ae h0,ae h3];exact(ae h0).symm
theorem sG (v most:Int):∀(N:Nat) (t:ByteArray) (a k:Nat) (l:List Pk),t.size≤N→
  ((smG v most t a k l).2.2.2.2=0→(smN v most (smG v most t a k l).2.1).2.2=3)∧((smG v most t a k l).2.2.2.2≠0→(smG v most t a k l).2.1=⟨#[]⟩)∧
  (smG v most t a k l).2.2.2.1+l.length=k+(smG v most t a k l).1.length∧(smG v most t a k l).2.2.1+(smG v most t a k l).2.1.size≤a+t.size∧(smG v most t a k l).2.2.2.1≤k+t.size∧(smG v most t a k l).2.2.2.2≠3
 | N,t,a,k,l,hN=>by
   rw[fK]
   split
   ·rename_i h0;have h1:=jD h0;have hx:(t.extract (smN v most t).2.1 t.size).size=t.size- (smN v most t).2.1:=by rw[aj];omega
    match N,hN with
    | 0,hN=>omega
    | N+1,hN=>
      obtain⟨i1,i2,i3,i4,i5,i6⟩:=sG v most N (t.extract (smN v most t).2.1 t.size) (a+(smN v most t).2.1) (k+1) (l++[(smN v most t).1]) (by omega);rw[List.length_append,qU]at i3;exact⟨i1,i2,by omega,by omega,by omega,i6⟩
   ·rename_i h0
    split
    ·rename_i h3;exact⟨fun _=>h3,fun h=>absurd rfl h,rfl,ac _,iX _ _,by simp⟩
    ·rename_i h3;exact⟨fun h=>absurd h h0,fun _=>rfl,rfl,by show a+0≤a+t.size;omega,iX _ _,h3⟩
theorem t6 {v most:Int} {t:ByteArray} (h:(smN v most t).2.2=3) (a k:Nat) (l:List Pk):smG v most t a k l=(l,t,a,k,0):=by
 rw[fK,ae (by rw[h];decide),if_pos h]
theorem t7 {v most:Int} (hv:ba v=true) (a k:Nat) (l:List Pk):smG v most ⟨#[]⟩ a k l=(l,⟨#[]⟩,a,k,0):=by
 refine t6 (nG (.inl ?_)) a k l;unfold hdR;rw[ae (by rw[hv];decide),if_pos (show(⟨#[]⟩:ByteArray).size=0 from rfl)]
theorem kg (v:Int) (t:ByteArray):fC v t 0=if(hdR v t).2.2≠0 then 1 else(hdZ v t:Int) - (t.size:Int):=by
 unfold fC;rw[ae (fun x=>x rfl),AZ]
 by_cases h:(hdR v t).2.2≠0
 ·rw[if_pos h,if_pos h];exact(if_pos h).symm
 ·rw[ae h,ae h];exact ae (fun x=>x rfl)
theorem mT {v most:Int} {t:ByteArray} (h:(smN v most t).2.2=3) (hm:16≤most):1≤fC v t 0∧fC v t 0≤most∧(t.size:Int)≤most- 1:=by
 rw[kg];rcases nH h with h1| ⟨h1,h2,h3⟩
 ·rw[if_pos (by rw[h1];decide)];have:=sf h1;omega
 ·rw[ae (fun x=>x h1)];omega
theorem zM {v most:Int} {t m:ByteArray} (h:(smN v most t).2.2=3) (hm:(m.size:Int)=fC v t 0- 1):(smN v most (t++m)).2.2=3∧fC v (t++m) 0=1:=by
 rw[kg]at hm;rcases nH h with h1| ⟨h1,h2,h3⟩
 ·rw[if_pos (by rw[h1];decide)]at hm;have he:t++m=t:=eX (by rw[fe,aF (by rw[aN];omega:(ls m).length=0),cW]);rw[he,kg,if_pos (by rw[h1];decide)];exact⟨h,rfl⟩
 ·rw[ae (fun x=>x h1)]at hm;have hh:=nd (u:=m) (by rw[h1];decide:(hdR v t).2.2≠3);have hz:hdZ v (t++m)=hdZ v t:=by unfold hdZ;rw[hh]
  have hs:(t++m).size=t.size+m.size:=cK;refine⟨nG (.inr ⟨by rw[hh];exact h1,by rw[hz];exact h2,by omega⟩),?_⟩;rw[kg,hh,ae (fun x=>x h1),hz];omega
theorem zN {v most:Int} (hv:ba v=true) {t m:ByteArray} (h:(smN v most t).2.2=3) (hm:(m.size:Int)=fC v t 0) (h2:fC v t 0≠1) (a k:Nat):
  (smG v most (t++m) a k []).2.2.2.2≠0∨((smG v most (t++m) a k []).1.length=1∧(smG v most (t++m) a k []).2.2.2.1=k+1):=by
 rw[kg]at hm h2;rcases nH h with h1| ⟨h1,h3,h4⟩
 ·rw[if_pos (by rw[h1];decide)]at h2;exact absurd rfl h2
 ·rw[ae (fun x=>x h1)]at hm;have hh:=nd (u:=m) (by rw[h1];decide:(hdR v t).2.2≠3);have hz:hdZ v (t++m)=hdZ v t:=by unfold hdZ;rw[hh]
  have hs:(t++m).size=t.size+m.size:=cK;have hN:smN v most (t++m)=mqR v ((t++m).extract 0 (hdZ v (t++m))):=by
   rw[nI,hh,ae (fun x=>x h1),ae (by rw[hz];omega),ae (by rw[hz];omega)]
  obtain⟨n3,n0⟩:=uW (v:=v) (t:=t++m) (by rw[hh];exact h1) (by rw[hz];omega);rw[←hN]at n3 n0;rw[fK]
  by_cases h0:(smN v most (t++m)).2.2=0
  ·have hx:(t++m).extract (smN v most (t++m)).2.1 (t++m).size=⟨#[]⟩:=eX (by
    rw[m9,gD (by rw[aN,n0 h0,hz];omega)];rfl)
   rw[if_pos h0,hx,t7 hv];exact .inr ⟨rfl,rfl⟩
  ·rw[ae h0,ae n3];exact .inl h0
end Go.Proofs.YtpcleamaieaefaaGreatDoor
namespace Go.Proofs.YtpcleamaieaefaaGreatDoor
open Go.ChangeShapes Go.WideShapes Go.ChangeAt Go.RowKit Go.Deep
set_option maxRecDepth 100000
section
variable {H:Type} {enc:TypeId×Value→H} {P:Program} {w:World} {base:Nat} {spare:Nat→Bool} {held:Bool}
theorem vz {fs:Array Field} {n:Nat} {cs:List Value} {xs:List (DataW H×List MemPlace)}
  (hf:∀(i:Nat) (f:Field),fs[i]? =some f→DataW.trod enc P w base spare held n f.type ((cs.drop f.offset).take (P.cellsOf f.type))=xs[i]?)
  (i:Nat) {t:TypeId} {o k:Nat} (hi:(fs[i]?.map fun f=>(f.type,f.offset,P.cellsOf f.type))=some (t,o,k)):DataW.trod enc P w base spare held n t ((cs.drop o).take k)=xs[i]? :=by
 obtain⟨f,hfi,he⟩:=Option.map_eq_some_iff.1 hi;simp only[bG]at he;obtain⟨rfl,rfl,rfl⟩:=he;exact hf i f hfi
theorem fu.field {t:TypeId} {fs:Array Field} {ds:List (DataW H)} (ht:P.underlying t=some (.struct fs)) (h:fu P t (.agg ds)) {i:Nat} {u:TypeId} {d:DataW H} (hu:(fs.toList.map (·.type))[i]? =some u) (hd:ds[i]? =some d):fu P u d:=fun z hz=>h z (by
 simp only[DataW.weights,ht];exact DataW.weights_mem_each hu hd z hz)
theorem fu.text {t:TypeId} {s:ByteArray} (h:fu P t (.lit (.string s.data.toList):DataW H)):s.size≤140737488351232:=by
 have:=h.str
 simpa [reachBytes]using this
end
section
variable {H:Type} {enc:TypeId×Value→H} {w:World} {base:Nat} {spare:Nat→Bool} {held:Bool}
end
end Go.Proofs.YtpcleamaieaefaaGreatDoor
namespace Go.Proofs.YtpcleamaieaefaaGreatDoor
open Go.RowKit
attribute [local go_sem ↓] bD bF bH bI bu
attribute [local go_sem] bc aD bh bg bK bJ bd aY be aO ax cI dC dB dt dj di dA dr dp dn bW co bO bZ bX cz cy cw cu ct cC cn bS bP bR
theorem uh (A A':Option Addr) (n m c c':Nat) (L M:List (Pk×Hs)) (w:World) (hl:RdK w A n L) (hm:RdK w A' m M) (ol:∀x∈L,gz x.1) (om:∀x∈M,gz x.1) (hn:n≤4611686018427387904) (hn':m≤4611686018427387904):
  Calls Tryz.prog 29 #[.slice A n c,.slice A' m c'] w fun e w'=>e= .returned (.bool (decide (L.map Prod.fst=M.map Prod.fst)))∧Below w.heap.size w w':=by
 have E1:=aa hl.len;have E2:=aa hm.len
 by_cases hlen:n=m
 ·subst hlen;have HL:=aa hl;have HM:=aa hm;have OL:=aa ol;have OM:=aa om
  clear hl hm ol om
  go_enter Tryz.func29,Tryz.ntmps29
  go_wp2
  go_loopw [5] (fun i wr=>∃k:Nat,k≤n∧i= .int .i64 k∧(∀j,j<k→(L.map Prod.fst)[j]? =(M.map Prod.fst)[j]?)∧Below w.heap.size w wr) (fun i _=>n- (intOf i).toNat)
  case atStart=>exact⟨0,by omega,rfl,fun j hj=>by omega,aq _ _⟩
  case round=>
   obtain⟨k,hk,rfl,hall,hbel⟩:=hrel;have HA:=aa hall;have HBL:=aa hbel
   clear hall hbel
   by_cases hlt:k<n
   ·obtain⟨bA,oA,p,h,rfl,e1,hb1,l1,i1⟩:=(HL.out.below HBL.out).at hlt;obtain⟨bB,oB,q,h',rfl,e2,hb2,l2,i2⟩:=(HM.out.below HBL.out).at hlt;have LP:Hid (gz p):=aa (OL.out (p,h) (iL e1));have LQ:Hid (gz q):=aa (OM.out (q,h') (iL e2));have HZ:Hid ((L.map Prod.fst)[k]? =some p):=aa (by rw[List.getElem?_map,e1];rfl);have HZ':Hid ((M.map Prod.fst)[k]? =some q):=aa (by rw[List.getElem?_map,e2];rfl);clear e1 e2 hb1 hb2;have b1:(0:Int)≤(k:Int):=by omega
    have b2:(k:Int)<(n:Int):=by omega
    have q0:=jw (W:=wr) (fun x hx=>ws p q h h' x (i1.next hx) (i2.next hx) LP.out LQ.out);have g1:=fun d os=>l1 _ (below_regrown wr d os);have g2:=fun d os=>l2 _ (below_regrown wr d os);have HBQ:=aa (fun d os=>HBL.out.trans ((below_regrown wr d os).mono HBL.out.size));have HPQ:=aa (show decide (p=q)=true↔p=q from cH);clear i1 i2 l1 l2;obtain⟨B,hB⟩:∃B,decide (p=q)=B:=⟨_,rfl⟩;rw[hB]at q0 HPQ;clear hB
    go_wp2_with fail
    refine wp_region_quiet_below (by as_aux_lemma=>kernel_rfl) (by as_aux_lemma=>kernel_rfl) ?_
    repeat (go_big_quiet_step (first| with_reducible exact q0 _ _))
    refine kE ?_;intro _ hw';obtain⟨⟨dq,osq⟩,hw''⟩:=hw';subst hw'';have KF:=aa (HBQ.out dq osq);clear q0 g1 g2 HBQ;generalize Sort.grow (redrawn _ dq) osq=wq at*;cases B
    ·have HNE:Hid (p≠q):=aa (fun e=>by have:=HPQ.out.2 e;cases this)
     go_wp2
     go_ret
     refine⟨?_,KF.out⟩;have:L.map Prod.fst≠M.map Prod.fst:=by
      intro e;have:=HZ.out.symm.trans ((congrArg (fun l:List Pk=>l[k]?) e).trans HZ'.out);exact HNE.out (by simpa using this)
     simp[this]
    ·have HEQ:Hid (p=q):=aa (HPQ.out.1 rfl)
     go_wp2
     go_roundw
     case rel=>
      refine⟨k+1,by omega,by go_num,fun j hj=>?_,KF.out⟩;rcases dx.1 hj with h| rfl
      ·exact HA.out j h
      ·rw[HZ.out,HZ'.out,HEQ.out]
     case measure=>simp[intOf];omega
   ·go_wp2
    go_ret
    refine⟨?_,HBL.out⟩;have:L.map Prod.fst=M.map Prod.fst:=by
     apply dM;intro j
     by_cases hj:j<k
     ·exact HA.out j hj
     ·rw[aG (by rw[eD];have:=E1.out;omega),aG (by rw[eD];have:=E2.out;omega)]
    simp[this]
 ·have h1:((n:Int) != (m:Int))=true:=by simpa using (by omega:¬(n:Int)=(m:Int))
  have HN:=aa hlen;clear hlen hl hm ol om
  go_enter Tryz.func29,Tryz.ntmps29
  go_wp2
  go_ret
  refine⟨?_,aq _ _⟩;have:L.map Prod.fst≠M.map Prod.fst:=by
   intro e;have:=congrArg List.length e;rw[eD,eD]at this;exact HN.out (by rw[←E1.out,←E2.out];exact this)
  simp[this]
end Go.Proofs.YtpcleamaieaefaaGreatDoor
namespace Go.Proofs.YtpcleamaieaefaaGreatDoor
open Go.RowKit
attribute [local go_sem ↓] bD bF bH bI bu
attribute [local go_sem] bc aD bh bg bK bJ bd aY be aO ax cI dC dB dt dj di dA dr dp dn bW co bO bZ bX cz cy cw cu ct cC cn bS bP bR
attribute [local go_sem ↓] xS
attribute [local go_sem] um
section
variable {v:Int} {w x y:World} {L G:List (Pk×Hs)} {i:Nat} {AG:Option Addr} {cG:Nat} {ve:Value} {p:Pk} {h:Hs}
end
theorem RowK.other {w0 w y:World} {A:Option Addr} {n c:Nat} {L:List (Pk×Hs)} (h:RowK w0 w A n c L) {row:Option Nat} (hm:w.grownBy y row) (hne:∀g,A=some ⟨g,0,none⟩→row≠some g):RowK w0 y A n c L:=by
 refine⟨h.len,?_⟩;rcases h.lies with h1| ⟨g,M,h1,h2,h3,h4⟩
 ·exact .inl h1
 ·exact .inr ⟨g,M,h1,h2,(hm.block g h3.lt (fun e=>hne g h1 e.symm)).trans h3,h4⟩
end Go.Proofs.YtpcleamaieaefaaGreatDoor
namespace Go.Proofs.YtpcleamaieaefaaGreatDoor
open Go.RowKit
attribute [local go_sem ↓] bD bF bH bI bu
attribute [local go_sem] bc aD bh bg bK bJ bd aY be aO ax cI dC dB dt dj di dA dr dp dn bW co bO bZ bX cz cy cw cu ct cC cn bS bP bR
attribute [local go_sem ↓] xS
attribute [local go_sem] um
theorem DD {w:World} {o:Oper} {a:Act} {J:Act→World→Prop} {Q:Exit→Act→World→Prop} (x y:Operand)
  (ho:o.op= .call {callee:=.builtin .append,args:=#[x,y],argTypes:=#[75,9]})
  {w0:World} {K:Option Addr} {n c:Nat} {t:List UInt8} (s:ByteArray) (hx:a.eval x= .slice K n c) (hy:a.eval y= .string s) (hr:Kp w0 w K n c t) (h0:w0.heap.size≤w.heap.size) (hb:n+s.size≤1000000000000)
  (h:∀K' c' w',Kp w0 w' K' (n+s.size) c' (t++ls s)→w.grownBy w' (Value.slice K n c).ownBlock→J (a.put o.dst (.slice K' (n+s.size) c')) w'):o.wp Tryz.prog a w J Q:=by
 obtain⟨K',c',w',hrun,h1,h2⟩:=Bp hr h0 o.type s hb;unfold Oper.wp execOp;simp only[ho,resolve,invoke,builtin,Sem.run_bind,Sem.run_pure,ik,kD,fI,gC,hx,hy,hrun];exact h K' c' w' h1 h2
theorem tQ {w:World} {ops:Array Oper} {rest:List Oper} {o:Oper} {a:Act} {Q:Exit→Act→World→Prop} (hgd:o.guard=none) (x y:Operand)
  (ho:o.op= .call {callee:=.builtin .append,args:=#[x,y],argTypes:=#[75,9]})
  {w0:World} {K:Option Addr} {n c:Nat} {t:List UInt8} (s:ByteArray) (hx:a.eval x= .slice K n c) (hy:a.eval y= .string s) (hr:Kp w0 w K n c t) (h0:w0.heap.size≤w.heap.size) (hb:n+s.size≤1000000000000)
  (h:∀K' c' w',Kp w0 w' K' (n+s.size) c' (t++ls s)→w.grownBy w' (Value.slice K n c).ownBlock→wpList Tryz.prog ops Q rest (a.put o.dst (.slice K' (n+s.size) c')) w'):wpList Tryz.prog ops Q (o :: rest) a w:=
 lb hgd fun _ hK=>DD x y ho s hx hy hr h0 hb fun K' c' w' h1 h2=>hK _ _ (h K' c' w' h1 h2)
theorem t8 (v most:Int) (K:Option Addr) (n c a k:Nat) (e:Int):∀(i:Nat) (m:Int),(smC v most K n c a k e)[i]? ≠some (Value.int IntKind.u32 m):=by
 intro i m;rcases i with _| _| _| _| _| _| i<;>simp[smC]
theorem Bb (v most:Int) (K:Option Addr) (n c a k:Nat) (e:Int) (o:Nat) (x:ByteArray) (b:Int) (_c d:Bool) (h0:(smC v most K n c a k e)[o]? =some (.string x)) (_h1:(smC v most K n c a k e)[o+1]? =some (.int .i64 b)) (_h3:(smC v most K n c a k e)[o+3]? =some (.bool d)):False:=by
 rcases o with _| _| _| _| _| _| o<;>simp[smC]at h0
theorem PkIn.stream {x y:World} {g:Nat} {p:Pk} {h:Hs} {v most:Int} {K:Option Addr} {n c a k:Nat} {e:Int} (hi:PkIn x x.heap.size p h) (hbk:Bk x g SmT (smC v most K n c a k e)) (hm:x.grownBy y (some g)) (hf:gG g (p,h)):PkIn y y.heap.size p h:=by
 refine⟨(hi.wp.other hbk (t8 _ _ _ _ _ _ _ _) hm (ac _)).wider hm.size,?_,(hi.filters.otherN hbk (Bb _ _ _ _ _ _ _ _) hm (ac _)).wider hm.size,(hi.props.other hbk (t8 _ _ _ _ _ _ _ _) hm (ac _)).wider hm.size,hi.caps⟩;refine(hi.codes.grown hm (ac _) ?_).wider hm.size;intro b o e hx;rcases hf with h| h
 ·dsimp only at h;rw[h]at hx;exact absurd rfl hx
 ·exact h b o e
def FS (g:Nat) (o:Option Nat) (i:Nat):Prop:=i=g∨o=some i
theorem Mods.app {S:Nat→Prop} {w0 w w':World} {o:Option Nat} (h:Mods S w0 w) (hg:w.grownBy w' o) (ho:∀i,o=some i→S i∨w0.heap.size≤i):Mods S w0 w':=
 ⟨hg.os.trans h.os,hg.tape.trans h.tape,hg.output.trans h.output,aC h.size hg.size,fun i hi hs=>(hg.block i (ch hi h.size) (fun e=>by
  rcases ho i e.symm with h1| h1
  ·exact hs h1
  ·omega)).trans (h.block i hi hs)⟩
structure SF (w0 wf:World) (g:Nat) (o:Option Nat) (v most:Int) (t:ByteArray) (a k:Nat) (A:Option Addr) (m cm:Nat) (L:List (Pk×Hs)) (x:World):Prop where
 st:∃K n c,Bk x g SmT (smC v most K n c a k 0)∧Kp w0 x K n c (ls t)
 row:RowI wf x A m cm L
 fresh:∀y∈L,∀i,i<wf.heap.size→gG i y
 lt:g<wf.heap.size
 base:w0.heap.size≤wf.heap.size
 mods:Mods (FS g o) wf x
theorem SF.size {w0 wf:World} {g:Nat} {o:Option Nat} {v most:Int} {t:ByteArray} {a k:Nat} {A:Option Addr} {m cm:Nat} {L:List (Pk×Hs)} {x:World} (s:SF w0 wf g o v most t a k A m cm L x):wf.heap.size≤x.heap.size:=s.mods.size
theorem SF.below {w0 wf:World} {g:Nat} {o:Option Nat} {v most:Int} {t:ByteArray} {a k:Nat} {A:Option Addr} {m cm:Nat} {L:List (Pk×Hs)} {x y:World} (s:SF w0 wf g o v most t a k A m cm L x) (hb:Below x.heap.size x y):SF w0 wf g o v most t a k A m cm L y:=by
 obtain⟨K,n,c,h1,h2⟩:=s.st;exact⟨⟨K,n,c,h1.below hb h1.lt,h2.below hb⟩,s.row.below hb,s.fresh,s.lt,s.base,s.mods.trans (Mods.of_below hb)⟩
theorem RowK.bk {w0 w y:World} {A:Option Addr} {n c:Nat} {L:List (Pk×Hs)} (h:RowK w0 w A n c L) (hm:w.grownBy y (Value.slice A n c).ownBlock) {g:Nat} {ty:TypeId} {cs:Array Value} (hb:Bk w g ty cs) (hne:ty≠PkT):Bk y g ty cs:=by
 refine(hm.block g hb.lt fun e=>?_).trans hb;rcases h.lies with ⟨rfl,-⟩ | ⟨g',M,rfl,-,h3,-⟩
 ·cases e
 ·simp only[Value.ownBlock,aX]at e;subst e;unfold Bk at hb h3;rw[hb]at h3;simp only[aX,fc]at h3;exact hne h3.2.1
theorem Kp.row {w0 wf w y:World} {K:Option Addr} {m d:Nat} {t:List UInt8} (h:Kp w0 w K m d t) {A:Option Addr} {n c:Nat} {L:List (Pk×Hs)} (hr:RowK wf w A n c L) (hm:w.grownBy y (Value.slice A n c).ownBlock):Kp w0 y K m d t:=by
 refine⟨h.len,h.cap,?_⟩;rcases h.lies with h1| ⟨g,o,M,h1,h2,h3,h4⟩
 ·exact .inl h1
 ·exact .inr ⟨g,o,M,h1,h2,hr.bk hm h3 (by decide),h4⟩
theorem RowI.stream {wf w y:World} {A:Option Addr} {n c:Nat} {L:List (Pk×Hs)} (h:RowI wf w A n c L) {g:Nat} {v most:Int} {K:Option Addr} {m d a k:Nat} {e:Int} (hb:Bk w g SmT (smC v most K m d a k e)) (hm:w.grownBy y (some g)) (ha:∀x∈L,gG g x):RowI wf y A n c L:=by
 refine⟨h.row.other hm fun q hq e=>?_,fun x hx=>(h.ins x hx).stream hb hm (ha x hx),h.apart⟩;cases e;rcases h.row.lies with ⟨h1,-⟩ | ⟨g',M,h1,-,h3,-⟩
 ·rw[h1]at hq;cases hq
 ·rw[h1]at hq;cases hq;unfold Bk at hb h3;rw[h3]at hb;simp only[aX,fc]at hb;exact absurd hb.2.1 (by decide)
structure FO (w0 w:World) (g:Nat) (o:Option Nat) (v most:Int) (r:List Pk×ByteArray×Nat×Nat×Int) (w':World) (A:Option Addr) (m cm:Nat) (L:List (Pk×Hs)) (K:Option Addr) (n c:Nat):Prop where
 row:RowI w w' A m cm L
 map:L.map Prod.fst=r.1
 bk:Bk w' g SmT (smC v most K n c r.2.2.1 r.2.2.2.1 r.2.2.2.2)
 kp:Kp w0 w' K n c (ls r.2.1)
 mods:Mods (FS g o) w w'
 fresh:∀y∈L,∀i,i<w.heap.size→gG i y
def tN (w0 w:World) (g:Nat) (o:Option Nat) (v most:Int) (r:List Pk×ByteArray×Nat×Nat×Int) (e:Ending) (w':World):Prop:=∃A m cm L K n c,e= .returned (.tuple #[.slice A m cm,.int .i64 r.2.2.2.2])∧FO w0 w g o v most r w' A m cm L K n c
theorem xl {w0 w x:World} {g:Nat} {o:Option Nat} {v most:Int} {t:ByteArray} {a k:Nat} {A:Option Addr} {m cm:Nat} {L:List (Pk×Hs)} {r:List Pk×ByteArray×Nat×Nat×Int} (s:SF w0 w g o v most t a k A m cm L x) (hr:(L.map Prod.fst,t,a,k,0)=r):tN w0 w g o v most r (.returned (.tuple #[.slice A m cm,.int .i64 0])) x:=by
 subst hr;obtain⟨K,n,c,h1,h2⟩:=s.st;exact⟨A,m,cm,L,K,n,c,rfl,s.row,rfl,h1,h2,s.mods,s.fresh⟩
theorem CK {w0 w x:World} {g:Nat} {o:Option Nat} {v most:Int} {t:ByteArray} {a k:Nat} {A:Option Addr} {m cm:Nat} {L:List (Pk×Hs)} {E:Int} {r:List Pk×ByteArray×Nat×Nat×Int} (s:SF w0 w g o v most t a k A m cm L x) (hr:(L.map Prod.fst,⟨#[]⟩,a,k,E)=r):
  tN w0 w g o v most r (.returned (.tuple #[.slice A m cm,.int .i64 E])) ((x.setCell ⟨g,2,none⟩ (.slice none 0 0)).setCell ⟨g,5,none⟩ (.int .i64 E)):=by
 subst hr;obtain⟨K,n,c,h1,h2⟩:=s.st;have hm:=(cP x g 2 (.slice none 0 0)).trans (cP (x.setCell ⟨g,2,none⟩ (.slice none 0 0)) g 5 (.int .i64 E));exact⟨A,m,cm,L,none,0,0,rfl,s.row.stream h1 hm (fun y hy=>s.fresh y hy g s.lt),rfl,(h1.put 2 (.slice none 0 0)).put 5 (.int .i64 E),Kp.none _ _,s.mods.app hm (fun i e=>by cases e;exact .inl (.inl rfl)),s.fresh⟩
theorem d9 (v most:Int) (g:Nat) (K:Option Addr) (n c a k:Nat) (t s:ByteArray) (w0 w:World) (hb:Bk w g SmT (smC v most K n c a k 0)) (hk:Kp w0 w K n c (ls t)) (h0:w0.heap.size≤w.heap.size) (hn:n+s.size≤1000000000) (hak:a≤10000000000∧k≤10000000000):
  Calls Tryz.prog 34 #[.pointer (some ⟨g,0,none⟩),.string s] w (tN w0 w g (Value.slice K n c).ownBlock v most (smG v most (t++s) a k [])):=by
 have HB:=aa hb;have HKP:=aa hk;have H0:=aa h0;have HN:=aa hn
 have c5:w.cell? ⟨g,5,none⟩=some (.int .i64 0):=HB.out.cell 5;have c2:w.cell? ⟨g,2,none⟩=some (.slice K n c):=HB.out.cell 2;have HAK:=aa hak;have HSZ:Hid ((t++s).size≤1000000000):=aa (by rw[cK,←aN t,hk.len];exact hn);obtain⟨RES,hRES⟩:∃R,smF v most ((t++s).size+1) (t++s) a k []=R:=⟨_,rfl⟩;rw[show smG v most (t++s) a k []=RES from hRES];obtain⟨O,hO⟩:∃O,(Value.slice K n c).ownBlock=O:=⟨_,rfl⟩;rw[hO];have HO:=aa hO;have HRES:=aa hRES;clear hb hk h0 hn hak hRES hO
 go_enter Tryz.func34,Tryz.ntmps34
 go_upto_region 5 with fail
 go_upto_region 6 with (at_builtin;refine tQ rfl (.tmp 26) (.tmp 27) rfl (w0:=w0) (K:=K) (n:=n) (c:=c) (t:=ls t) s rfl rfl HKP.out H0.out (by have:=HN.out;omega) ?_;intro K' c' w1 hkp hgr;have hb1:=HKP.out.bk hgr HB.out (by decide);have f2:=hb1.free 2;have x2:=hb1.cell 2)
 have hb2:=hb1.put 2 (.slice K' (n+s.size) c');have BK:=aa (show Bk (w1.setCell ⟨g,2,none⟩ (.slice K' (n+s.size) c')) g SmT (smC v most K' (n+s.size) c' a k 0)from hb2);have KP:=aa (hkp.apart hb1 (by decide) (cP w1 g 2 (.slice K' (n+s.size) c')));have GL:=aa HB.out.lt;have LW:Hid (Mods (FS g O) w (w1.setCell ⟨g,2,none⟩ (.slice K' (n+s.size) c'))):=aa (((Mods.refl w).app hgr (fun i e=>.inl (.inr (HO.out▸e)))).app (cP w1 g 2 _) (fun i e=>by cases e;exact .inl (.inl rfl)));clear hb2 hb1 f2 x2 hkp hgr c5 c2 HB HKP;generalize w1.setCell ⟨g,2,none⟩ (.slice K' (n+s.size) c')=W1 at*;have HTS:Hid (ls t++ls s=ls (t++s)):=aa (fe t s).symm;rw[HTS.out]at KP;have SF0:Hid (SF w0 w g O v most (t++s) a k none 0 0 [] W1):=aa ⟨⟨K',n+s.size,c',BK.out,KP.out⟩,RowI.start w W1,by simp,GL.out,H0.out,LW.out⟩
 go_wp2
 go_loopg [6] ((t++s).size+1) (fun f ov wr=>∃(A:Option Addr) (m cm:Nat) (L:List (Pk×Hs)) (t':ByteArray) (a' k':Nat),ov= .slice A m cm∧SF w0 w g O v most t' a' k' A m cm L wr∧t'.size<f∧smF v most f t' a' k' (L.map Prod.fst)=RES∧t'.size≤1000000000∧a'+t'.size≤100000000000∧k'+t'.size≤100000000000∧m+t'.size≤10000000000)
 case atStart=>exact⟨none,0,0,[],t++s,a,k,rfl,SF0.out,ed _,HRES.out,HSZ.out,by have:=HSZ.out;have:=HAK.out;omega,by have:=HSZ.out;have:=HAK.out;omega,by have:=HSZ.out;omega⟩
 case round=>
  obtain⟨A,m,cm,L,t',a',k',rfl,hS,hlt,hF,hz1,hz2,hz3,hz4⟩:=hrel;obtain⟨f,rfl⟩:∃f',gk=f'+1:=⟨gk- 1,by omega⟩;rw[mU]at hF;have S0:=aa hS;have HLT:=aa hlt;have HF:=aa hF
  have HZS:=aa (And.intro hz1 (And.intro hz2 (And.intro hz3 hz4)));obtain⟨K1,n1,c1,hb,hk⟩:=hS.st;have BK1:=aa hb;have KP1:=aa hk
  have HN1:Hid (t'.size=n1):=aa (by rw[←aN];exact hk.len);have CL:=aa (wj v most g K1 n1 c1 a' k' 0 t' w0 wr hb hk (by omega));have HST:=aa (jD (v:=v) (most:=most) (t:=t'));obtain⟨⟨P,q,E⟩,hR⟩:∃R,smN v most t'=R:=⟨_,rfl⟩;rw[hR]at HF HST CL;dsimp only at HF HST;clear hS hlt hF hz1 hz2 hz3 hz4 hb hk hR
  go_wp2_with fail
  refine CL.out.mono ?_;rintro e w2 ⟨hh,rfl,hi,hbw,hf⟩;have HBW:=aa (hbw.alloc hbw.size (.cells (pkC P hh) PkT));have S1:=aa (S0.out.below HBW.out);have BK2:=aa (BK1.out.below HBW.out BK1.out.lt);have KP2:=aa (KP1.out.below HBW.out);have P2:=aa (hi.next ((aq _ _).alloc (ac _) (.cells (pkC P hh) PkT)));have F2:=aa hf;clear hi hbw hf CL;dsimp only at P2 F2⊢
  by_cases h3:E=3
  ·have HX:Hid ((L.map Prod.fst,t',a',k',0)=RES):=aa (by
    have:=HF.out;rwa[ae (by rw[h3];decide),if_pos h3]at this)
   subst h3
   go_wp2
   go_ret2
   exact xl S1.out HX.out
  by_cases h0:E=0
  rotate_left
  ·have e3:(E==3)=false:=ar.2 h3;have e0:(E==0)=false:=ar.2 h0;have f2:=BK2.out.free 2;have f5:=BK2.out.free 5
   have x2:=BK2.out.cell 2;have x5:=BK2.out.cell 5
   have HX:Hid ((L.map Prod.fst,⟨#[]⟩,a',k',E)=RES):=aa (by
    have:=HF.out;rwa[ae h0,ae h3]at this)
   clear h3 h0
   go_wp2
   go_ret2
   exact CK S1.out HX.out
  subst h0;have HF2:Hid (smF v most f (t'.extract q t'.size) (a'+q) (k'+1) ((L++[(P,hh)]).map Prod.fst)=RES):=aa (by
   have:=HF.out;rw[if_pos rfl]at this;rw[Ii];exact this)
  obtain⟨q1,q2⟩:=HST.out rfl;have HQ:Hid (2≤q∧q≤n1):=aa (by have:=HN1.out;omega);have hb3:=(aq (w2.alloc (.cells (pkC P hh) PkT)).heap.size (w2.alloc (.cells (pkC P hh) PkT))).alloc (ac _) (.cells (pkC P hh) PkT);have S3:=aa (S1.out.below hb3);have BK3:=aa (BK2.out.below hb3 BK2.out.lt);have KP3:=aa (KP2.out.below hb3);have P3:=aa (P2.out.next hb3);have R3:=aa (Fs (w2.alloc (.cells (pkC P hh) PkT)) P hh (g:=w2.heap.size+1) (by simp));have HNB:Hid (m+1≤100000000000):=aa (by have:=HZS.out;have:=HQ.out;have:=HN1.out;omega);clear h3 HF HST q1 q2 hb3 S1 BK2 KP2 P2
  go_upto_region 14 with (at_builtin;refine oE rfl (.tmp 51) (.tmp 53) rfl (w0:=w) (A:=A) (n:=m) (c:=cm) (L:=L) rfl S3.out.row.row S3.out.size _ [(P,hh)] 1 1 _ rfl rfl (by decide) R3.out HNB.out ?_;intro g4 c4 w4 hrow hgr hat hlt4)
  have B4:=aa (S3.out.row.row.bk hgr BK3.out (by decide));have K4:=aa (KP3.out.row S3.out.row.row hgr);have I4:=aa (S3.out.row.more hrow hgr hat (fun x hx=>by rw[gA.1 hx];exact P3.out) (fun x hx g o e=>by rw[gA.1 hx];exact F2.out.apart (S0.out.row.row.block e).2));have A4:Hid (∀x∈L++[(P,hh)],∀i,i<w.heap.size→gG i x):=aa (fun x hx i hi=>(cj.1 hx).elim (fun h=>S0.out.fresh x h i hi) (fun h=>by rw[gA.1 h];exact F2.out.apart (ch hi S0.out.size)));have L4:=aa (S3.out.mods.app hgr (fun q hq=>.inr (S3.out.row.row.own hq).1));have DC:=aa (wn v most g K1 n1 c1 a' k' q 0 w4 B4.out HQ.out.2 KP1.out.cap (by have:=HZS.out;omega) (by have:=HZS.out;omega) (by have:=HZS.out;have:=HN1.out;omega));clear hrow hgr hat hlt4 S3 BK3 KP3 P3 R3
  go_wp2_with fail
  refine DC.out.mono ?_;rintro e w5 ⟨rfl,hb5,hm5⟩;have S5:Hid (SF w0 w g O v most (t'.extract q t'.size) (a'+q) (k'+1) (some ⟨g4,0,none⟩) (m+1) c4 (L++[(P,hh)]) w5):=aa ⟨⟨xt K1 n1 q 1,n1- q,n1- q,hb5,by
   have:=(K4.out.apart B4.out (by decide) hm5).drop HQ.out.2;rw[EK];exact this⟩,I4.out.stream B4.out hm5 (fun y hy=>A4.out y hy g S0.out.lt),A4.out,S0.out.lt,S0.out.base,L4.out.app hm5 (fun i e=>by cases e;exact .inl (.inl rfl))⟩
  clear hb5 hm5 DC
  go_wp2
  go_roundg f
  case measure=>omega
  case rel=>
   have h9:=HQ.out;have h8:=HN1.out;have h7:=HZS.out;have h6:=HLT.out
   have hx:(t'.extract q t'.size).size=t'.size- q:=by rw[aj,Nat.min_self]
   exact⟨some ⟨g4,0,none⟩,m+1,c4,L++[(P,hh)],t'.extract q t'.size,a'+q,k'+1,rfl,S5.out,by omega,HF2.out,by omega,by omega,by omega,by omega⟩
end Go.Proofs.YtpcleamaieaefaaGreatDoor
namespace Go.Proofs.YtpcleamaieaefaaGreatDoor
open Go.RowKit
attribute [local go_sem ↓] bD bF bH bI bu
attribute [local go_sem] bc aD bh bg bK bJ bd aY be aO ax cI dC dB dt dj di dA dr dp dn bW co bO bZ bX cz cy cw cu ct cC cn bS bP bR
theorem Mods.split {g:Nat} {o:Option Nat} {w w':World} (h:Mods (FS g o) w w') (hg:g<w.heap.size):∃z,w.grownBy z (some g)∧z.grownBy w' o:=by
 have hg':g<w'.heap.size:=ch hg h.size;refine⟨{w with heap:=w.heap.set g (w'.heap[g]) hg},⟨rfl,rfl,rfl,?_,fun i hi e=>?_⟩,⟨h.os,h.tape,h.output,?_,fun i hi e=>?_⟩⟩
 ·show w.heap.size≤(w.heap.set g (w'.heap[g]) hg).size;rw[Array.size_set];exact ac _
 ·show(w.heap.set g (w'.heap[g]) hg)[i]? =w.heap[i]?;rw[Array.getElem?_set_ne hg (fun x=>e (by rw[x]))]
 ·show(w.heap.set g (w'.heap[g]) hg).size≤w'.heap.size;rw[Array.size_set];exact h.size
 ·show w'.heap[i]? =(w.heap.set g (w'.heap[g]) hg)[i]?;have hi':i<w.heap.size:=by
   have:i<(w.heap.set g (w'.heap[g]) hg).size:=hi;rwa[Array.size_set]at this
  by_cases x:g=i
  ·subst x;rw[Array.getElem?_set_self hg,eL hg']
  ·rw[Array.getElem?_set_ne hg x];exact h.block i hi' (fun y=>y.elim (fun a=>x a.symm) (fun b=>e b.symm))
theorem Kp.not {w0 w:World} {K:Option Addr} {n c:Nat} {t:List UInt8} (h:Kp w0 w K n c t) {g:Nat} {ty:TypeId} {cs:Array Value} (hb:Bk w g ty cs) (hne:ty≠U8):(Value.slice K n c).ownBlock≠some g:=by
 intro e;rcases h.lies with ⟨rfl,-⟩ | ⟨g',o,M,rfl,-,h3,-⟩
 ·cases e
 ·simp only[Value.ownBlock,aX]at e;subst e;unfold Bk at hb h3;rw[hb]at h3;simp only[aX,fc]at h3;exact hne h3.2.1
theorem RowI.kept {wf w0 w y:World} {A:Option Addr} {n c:Nat} {L:List (Pk×Hs)} (h:RowI wf w A n c L) {K:Option Addr} {m d:Nat} {t:List UInt8} (hk:Kp w0 w K m d t) (hm:w.grownBy y (Value.slice K m d).ownBlock):RowI wf y A n c L:=by
 refine⟨h.row.other hm fun q hq e=>?_,fun x hx=>hk.keep hm (h.ins x hx),h.apart⟩;rcases h.row.lies with ⟨h1,-⟩ | ⟨g2,M2,h1,-,h4,-⟩
 ·rw[h1]at hq;cases hq
 ·rw[h1]at hq;cases hq
  exact hk.not h4 (by decide) e
theorem RowI.fed {wf w0 w y:World} {A:Option Addr} {n c:Nat} {L:List (Pk×Hs)} (h:RowI wf w A n c L) {g:Nat} {v most:Int} {K:Option Addr} {m d a k:Nat} {e:Int} {t:List UInt8} (hb:Bk w g SmT (smC v most K m d a k e)) (hk:Kp w0 w K m d t) (hm:Mods (FS g (Value.slice K m d).ownBlock) w y) (ha:∀x∈L,gG g x):RowI wf y A n c L:=by
 obtain⟨z,h1,h2⟩:=hm.split hb.lt;exact(h.stream hb h1 ha).kept (hk.apart hb (by decide) h1) h2
theorem ex {B:Nat} {w0 wk w y:World} (h0:Below B w0 w) {g:Nat} {K:Option Addr} {m d:Nat} {t:List UInt8} (hg:B≤g) (hB:B≤w.heap.size) (hk:Kp wk w K m d t) (hw:B≤wk.heap.size) (hm:Mods (FS g (Value.slice K m d).ownBlock) w y):Below B w0 y:=
 hm.below h0 hB fun i hi=>hi.elim (fun e=>by omega) (fun e=>aC hw (hk.own e).1)
theorem RowK.first {w0 w:World} {A:Option Addr} {n c:Nat} {p:Pk} {h:Hs} {L:List (Pk×Hs)} (hr:RowK w0 w A n c ((p,h) :: L)):∃g M,A=some ⟨g,0,none⟩∧Bk w g PkT (pks ((p,h) :: M)).toArray:=by
 rcases hr.lies with ⟨-,h1,-⟩ | ⟨g,M,h1,-,h3,h4,h5,-,h7⟩
 ·have:=hr.len;simp at this;omega
 ·match M,n,h3,h7 with
  | [],_,_,h7=>simp at h7
  | _ :: _,0,_,h7=>simp at h7
  | x :: M,n+1,h3,h7=>
    rw[GG,gY]at h7;rw[h7.1]at h3;exact⟨g,M,h1,h3⟩
theorem Bk.first {w:World} {g:Nat} {p:Pk} {h:Hs} {M:List (Pk×Hs)} (hb:Bk w g PkT (pks ((p,h) :: M)).toArray) {r:Nat} (hr:r<25):w.cell? ⟨g,r,none⟩=(pkC p h)[r]? :=by
 rw[hb.cell,ay];have:=mG ((p,h) :: M) 0 r (Nat.succ_pos _) hr;rwa[jU,bV]at this
theorem Bk.fed {w0 w y:World} {q:Nat} {ty:TypeId} {cs:Array Value} (h:Bk w q ty cs) (h1:ty≠U8) {g:Nat} {K:Option Addr} {m d:Nat} {t:List UInt8} (hq:q≠g) (hk:Kp w0 w K m d t) (hm:Mods (FS g (Value.slice K m d).ownBlock) w y):Bk y q ty cs:=
 h.mods hm fun x=>x.elim hq (hk.not h h1)
theorem Bk.ne {w:World} {q g:Nat} {ty tz:TypeId} {cs ds:Array Value} (h:Bk w q ty cs) (h':Bk w g tz ds) (hne:ty≠tz):q≠g:=by
 rintro rfl;unfold Bk at h h';rw[h]at h';simp only[aX,fc]at h';exact hne h'.2.1
theorem Kp.fed {w0 w1 w y:World} {K K':Option Addr} {n c m d:Nat} {t u:List UInt8} (h:Kp w0 w K n c t) {g:Nat} {cs:Array Value} (hb:Bk w g SmT cs) (hx:∀i,(Value.slice K n c).ownBlock=some i→(Value.slice K' m d).ownBlock≠some i) (hm:Mods (FS g (Value.slice K' m d).ownBlock) w y) (_hk:Kp w1 w K' m d u):Kp w0 y K n c t:=by
 refine⟨h.len,h.cap,?_⟩;rcases h.lies with h1| ⟨q,o,M,rfl,h2,h3,h4⟩
 ·exact .inl h1
 ·exact .inr ⟨q,o,M,rfl,h2,h3.mods hm (fun x=>x.elim (fun e=>h3.ne hb (by decide) e) (hx q rfl)),h4⟩
theorem pO (v most:Int) (g:Nat) (K:Option Addr) (n c a k:Nat) (e:Int) (he:e≠0) (s:ByteArray) (w:World) (hb:Bk w g SmT (smC v most K n c a k e)):
  Calls Tryz.prog 34 #[.pointer (some ⟨g,0,none⟩),.string s] w fun e' w'=>e'= .returned (.tuple #[.slice none 0 0,.int .i64 e])∧Below w.heap.size w w':=by
 have HB:=aa (aq w.heap.size w);have c5:w.cell? ⟨g,5,none⟩=some (.int .i64 e):=hb.cell 5;have e0:(e !=0)=true:=aA.2 he;clear hb he
 go_enter Tryz.func34,Tryz.ntmps34
 go_wp2
 go_quiet (fail)
 go_wp2
 go_ret2
 exact⟨rfl,aV HB.out _⟩
theorem pN (v most:Int) (g:Nat) (K:Option Addr) (n c a k:Nat) (e:Int) (he:e≠0) (w:World) (hb:Bk w g SmT (smC v most K n c a k e)):
  Calls Tryz.prog 35 #[.pointer (some ⟨g,0,none⟩)] w fun e' w'=>e'= .returned (.int .i64 0)∧w=w':=by
 have c5:w.cell? ⟨g,5,none⟩=some (.int .i64 e):=hb.cell 5;have e0:(e !=0)=true:=aA.2 he;clear hb he
 go_enter Tryz.func35,Tryz.ntmps35
 go_wp2
 go_ret
 exact⟨rfl,rfl⟩
theorem uo {fn:Func} {p:Tmp} (hr:fn.results= #[.cell p 57]) (tmps:Array Value) {w:World} {g:Nat} {a b:Value} (hp:tmps.getD p undef= .pointer (some ⟨g,0,none⟩)) (hb:Bk w g 57 #[a,b]):(results fn tmps).run Tryz.prog w= .ok (.agg #[a,b]) w:=by
 obtain⟨⟨c0,c1⟩,-⟩:=hb.two;rw[Jf]at hp;simp only[results,hr];simp[hp,go_sem,c0,c1]
theorem iz (w:World):Calls Tryz.prog 39 #[] w fun e w'=>e= .returned (zW 64 0)∧Below w.heap.size w w':=by
 have HK:=aa (Bk.fresh w 57 #[.int .i64 64,.int .i64 0]);have HB:=aa ((aq w.heap.size w).alloc (ac _) (.cells #[.int .i64 64,.int .i64 0] 57));unfold zW
 go_enter Tryz.func39,Tryz.ntmps39
 go_wp2
 refine av (uo rfl _ rfl HK.out) rfl ?_;exact⟨rfl,HB.out⟩
theorem FW:smG 4 64 (⟨#[]⟩++⟨#[192]⟩) 0 0 []=([],⟨#[192]⟩,0,0,0):=by decide+kernel
theorem FV:smG 4 64 (⟨#[192]⟩++⟨#[0,208]⟩) 0 0 []=([{pk0 with kind:=12}],⟨#[208]⟩,2,1,0):=by decide+kernel
theorem FU:smG 4 64 (⟨#[208]⟩++⟨#[0]⟩) 2 1 []=([{pk0 with kind:=13}],⟨#[]⟩,4,2,0):=by decide+kernel
theorem FO.len {w0 w w':World} {g:Nat} {o:Option Nat} {v most:Int} {r:List Pk×ByteArray×Nat×Nat×Int} {A:Option Addr} {m cm:Nat} {L:List (Pk×Hs)} {K:Option Addr} {n c:Nat} (h:FO w0 w g o v most r w' A m cm L K n c):m=r.1.length:=by
 rw[←h.map,eD,h.row.row.len]
theorem tg {L:List (Pk×Hs)} {p:Pk} (h:L.map Prod.fst=[p]):∃k,L=[(p,k)]:=by
 match L,h with
 | [],h=>cases h
 | [(q,k)],h=>
   simp only[fI,gC,gY,Hj]at h;exact⟨k,by rw[h]⟩
 | _ :: _ :: _,h=>simp at h
theorem lA (w:World):Calls Tryz.prog 32 #[] w fun e w'=>e= .returned (.bool true)∧Below w.heap.size w w':=by
 have HC1:=aa (fun(g:Nat) W hb=>d9 4 64 g none 0 0 0 0 ⟨#[]⟩ ⟨#[192]⟩ w W hb (Kp.none w W));have HC2:=aa (fun(g:Nat) (K:Option Addr) (n c:Nat) W hb hk=>d9 4 64 g K n c 0 0 ⟨#[192]⟩ ⟨#[0,208]⟩ w W hb hk);have HC3:=aa (fun(g:Nat) (K:Option Addr) (n c:Nat) W hb hk=>d9 4 64 g K n c 2 1 ⟨#[208]⟩ ⟨#[0]⟩ w W hb hk);rw[FW]at HC1;rw[FV]at HC2;rw[FU]at HC3
 go_enter Tryz.func32,Tryz.ntmps32
 go_wp2_with fail
 refine(iz _).mono ?_;rintro e w0 ⟨rfl,hb0⟩;have HB0:=aa hb0;clear hb0
 go_wp2_with fail
 refine(fm 4 64 0 _).mono ?_;rintro e w1 ⟨hb,h⟩;rw[if_pos (by decide)]at h;obtain⟨g,rfl,hg,bk⟩:=h;have HB1:=aa (HB0.out.trans (hb.mono HB0.out.size));have HG:=aa (aC HB0.out.size hg);have BK1:=aa bk
 clear hb hg bk
 go_wp2_with fail
 refine(HC1.out g _ BK1.out HB1.out.size (by decide) (by decide)).mono ?_;rintro e w2 ⟨A1,m1,cm1,L1,K1,n1,c1,rfl,F⟩;have F1:=aa F;have M1:=F.len
 have HB2:=aa (ex HB1.out HG.out HB1.out.size (Kp.none w w1) (ac _) F.mods);have N1:Hid (n1=1):=aa F.kp.len.symm;clear F HC1;dsimp only[eC]at M1⊢;subst M1
 go_wp2_with fail
 refine(HC2.out g K1 n1 c1 _ F1.out.bk F1.out.kp HB2.out.size (by rw[N1.out];decide) (by decide)).mono ?_;rintro e w3 ⟨A2,m2,cm2,L2,K2,n2,c2,rfl,F⟩;have F2:=aa F;have M2:=F.len
 have HB3:=aa (ex HB2.out HG.out HB2.out.size F1.out.kp (ac _) F.mods);have N2:Hid (n2=1):=aa F.kp.len.symm;clear F HC2;dsimp only[bM,eC]at M2⊢;subst M2
 go_wp2_with fail
 refine(HC3.out g K2 n2 c2 _ F2.out.bk F2.out.kp HB3.out.size (by rw[N2.out];decide) (by decide)).mono ?_;rintro e w4 ⟨A3,m3,cm3,L3,K3,n3,c3,rfl,F⟩;have F3:=aa F;have M3:=F.len
 have HB4:=aa (ex HB3.out HG.out HB3.out.size F2.out.kp (ac _) F.mods);have R2:=F2.out.row.fed F2.out.bk F2.out.kp F.mods (fun x hx=>F2.out.fresh x hx g F1.out.bk.lt);obtain⟨k2,e2⟩:=tg F2.out.map;obtain⟨k3,e3⟩:=tg F.map;have R3:=F.row;rw[e2]at R2;rw[e3]at R3;obtain⟨g2,Q2,rfl,x2⟩:=R2.row.first;obtain⟨g3,Q3,rfl,x3⟩:=R3.row.first;have y2:w4.cell? ⟨g2,0,none⟩=some (.int .i64 12):=x2.first (r:=0) (by decide);have y3:w4.cell? ⟨g3,0,none⟩=some (.int .i64 13):=x3.first (r:=0) (by decide);clear F HC3 R2 R3 e2 e3 x2 x3;dsimp only[bM,eC]at M3⊢;subst M3
 go_wp2
 go_ret
 exact⟨rfl,HB4.out⟩
theorem Ca (s:ByteArray) (w:World):Calls Tryz.prog 34 #[.pointer none,.string s] w fun e' w'=>e'= .returned (.tuple #[.slice none 0 0,.int .i64 1])∧w=w':=by
 go_enter Tryz.func34,Tryz.ntmps34
 go_wp2
 go_ret2
 exact⟨rfl,rfl⟩
theorem Ek (w:World):Calls Tryz.prog 38 #[.pointer none] w fun e' w'=>e'= .returned (.int .i64 1)∧w=w':=by
 go_enter Tryz.func38,Tryz.ntmps38
 go_wp2
 go_ret
 exact⟨rfl,rfl⟩
theorem FB (w:World):Calls Tryz.prog 40 #[.pointer none] w fun e' w'=>e'= .returned (.int .i64 0)∧w=w':=by
 go_enter Tryz.func40,Tryz.ntmps40
 go_wp2
 go_ret
 exact⟨rfl,rfl⟩
theorem BZ (w:World):Calls Tryz.prog 37 #[.pointer none] w fun e' w'=>e'= .returned (.int .i64 0)∧w=w':=by
 go_enter Tryz.func37,Tryz.ntmps37
 go_wp2
 go_ret
 exact⟨rfl,rfl⟩
theorem BV (w:World):Calls Tryz.prog 36 #[.pointer none] w fun e' w'=>e'= .returned (.int .i64 0)∧w=w':=by
 go_enter Tryz.func36,Tryz.ntmps36
 go_wp2
 go_ret
 exact⟨rfl,rfl⟩
theorem BW (w:World):Calls Tryz.prog 35 #[.pointer none] w fun e' w'=>e'= .returned (.int .i64 0)∧w=w':=by
 go_enter Tryz.func35,Tryz.ntmps35
 go_wp2
 go_ret
 exact⟨rfl,rfl⟩
def Gg:Pk:={pk0 with kind:=3,topic:=⟨#[97]⟩,payload:=⟨#[120]⟩}
theorem FT:smG 5 64 (⟨#[]⟩++⟨#[192,0,48,5,0,1]⟩) 0 0 []=([{pk0 with kind:=12}],⟨#[48,5,0,1]⟩,2,1,0):=by decide+kernel
theorem FR:smG 5 64 (⟨#[48,5,0,1]⟩++⟨#[97,0,120,193]⟩) 2 1 []=([Gg],⟨#[]⟩,9,2,7):=by decide+kernel
theorem FP:smG 5 64 (⟨#[]⟩++⟨#[48,62]⟩) 0 0 []=([],⟨#[48,62]⟩,0,0,0):=by decide+kernel
theorem FN:smG 5 64 (⟨#[48,62]⟩++⟨#[]⟩) 0 0 []=([],⟨#[48,62]⟩,0,0,0):=by decide+kernel
theorem FM:smG 5 64 (⟨#[]⟩++⟨#[48,63]⟩) 0 0 []=([],⟨#[]⟩,0,0,4):=by decide+kernel
theorem Ce:fC 5 ⟨#[]⟩ 0=1:=by decide+kernel
theorem Cd:fC 5 ⟨#[48,5,0,1]⟩ 0=3:=by decide+kernel
theorem nV (w:World):Calls Tryz.prog 7 #[] w fun e w'=>e= .returned (.bool true)∧Below w.heap.size w w':=by
 have HC1:=aa (fun(g:Nat) W hb=>d9 5 64 g none 0 0 0 0 ⟨#[]⟩ ⟨#[192,0,48,5,0,1]⟩ w W hb (Kp.none w W));have HC2:=aa (fun(g:Nat) (K:Option Addr) (n c:Nat) W hb hk=>d9 5 64 g K n c 2 1 ⟨#[48,5,0,1]⟩ ⟨#[97,0,120,193]⟩ w W hb hk);have HC3:=aa (fun(g:Nat) W hb=>d9 5 64 g none 0 0 0 0 ⟨#[]⟩ ⟨#[48,62]⟩ w W hb (Kp.none w W));have HC4:=aa (fun(g:Nat) (K:Option Addr) (n c:Nat) W hb hk=>d9 5 64 g K n c 0 0 ⟨#[48,62]⟩ ⟨#[]⟩ w W hb hk);have HC5:=aa (fun(g:Nat) W hb=>d9 5 64 g none 0 0 0 0 ⟨#[]⟩ ⟨#[48,63]⟩ w W hb (Kp.none w W));rw[FT]at HC1;rw[FR]at HC2;rw[FP]at HC3;rw[FN]at HC4;rw[FM]at HC5
 go_enter Tryz.func7,Tryz.ntmps7
 go_wp2_with fail
 refine(lA _).mono ?_;rintro e w0 ⟨rfl,hb⟩;have HB0:=aa hb;clear hb
 go_wp2_with fail
 refine(iz _).mono ?_;rintro e w0' ⟨rfl,hb⟩;have HB0:=aa (HB0.out.trans (hb.mono HB0.out.size));clear hb
 go_wp2_with fail
 refine(fm 3 64 0 _).mono ?_;rintro e w1 ⟨hb,h⟩;rw[ae (by decide)]at h;subst h;have HB1:=aa (HB0.out.trans (hb.mono HB0.out.size));clear hb HB0
 go_wp2_with fail
 refine(fm 5 15 0 _).mono ?_;rintro e w2 ⟨hb,h⟩;rw[ae (by decide)]at h;subst h;have HB2:=aa (HB1.out.trans (hb.mono HB1.out.size));clear hb HB1
 go_wp2_with fail
 refine(fm 5 16 33 _).mono ?_;rintro e w3 ⟨hb,h⟩;rw[ae (by decide)]at h;subst h;have HB3:=aa (HB2.out.trans (hb.mono HB2.out.size));clear hb HB2
 go_wp2_with fail
 refine(iz _).mono ?_;rintro e w3' ⟨rfl,hb⟩;have HB3:=aa (HB3.out.trans (hb.mono HB3.out.size));clear hb
 go_wp2_with fail
 refine(fm 5 64 0 _).mono ?_;rintro e w4 ⟨hb,h⟩;rw[if_pos (by decide)]at h;obtain⟨g,rfl,hg,bk⟩:=h;have HB4:=aa (HB3.out.trans (hb.mono HB3.out.size));have HG:=aa (aC HB3.out.size hg);have BK4:=aa bk
 clear hb hg bk HB3;have HNE:=aa (iR 5 64 g none 0 0 0 0 0 ⟨#[]⟩ w w4 BK4.out (Kp.none _ _) (by decide));rw[Ce]at HNE
 go_wp2_with fail
 refine HNE.out.mono ?_;rintro e w5 ⟨rfl,hb⟩;have HB5:=aa (HB4.out.trans (hb.mono HB4.out.size));have BK5:=aa (BK4.out.below hb BK4.out.lt)
 clear hb HNE HB4 BK4
 go_wp2_with fail
 refine(HC1.out g _ BK5.out HB5.out.size (by decide) (by decide)).mono ?_;rintro e w6 ⟨A1,m1,cm1,L1,K1,n1,c1,rfl,F⟩;have F1:=aa F;have HB6:=aa (ex HB5.out HG.out HB5.out.size (Kp.none w w5) (ac _) F.mods);have N1:n1=4:=F.kp.len.symm;clear F HC1;subst N1;have HBK:Hid (Bk w6 g SmT (smC 5 64 K1 4 c1 2 1 0)):=aa F1.out.bk;have HKP:Hid (Kp w w6 K1 4 c1 (ls ⟨#[48,5,0,1]⟩)):=aa F1.out.kp;dsimp only
 go_wp2_with fail
 have HN2:=aa (iR 5 64 g K1 4 c1 2 1 0 ⟨#[48,5,0,1]⟩ w w6 HBK.out HKP.out (by decide));rw[Cd]at HN2;refine HN2.out.mono ?_;rintro e w7 ⟨rfl,hb⟩;have KF:=aa hb;clear hb HN2;have BK7:=aa (HBK.out.below KF.out HBK.out.lt);have KP7:=aa (HKP.out.below KF.out)
 have HB7:=aa (HB6.out.trans (KF.out.mono HB6.out.size));clear HBK HKP HB6 HB5 BK5
 go_wp2_with fail
 refine(mV 5 64 g K1 4 c1 2 1 0 _ BK7.out).mono ?_;rintro e w7' ⟨rfl,rfl⟩
 go_wp2_with fail
 refine(gQ 5 64 g K1 4 c1 2 1 0 _ BK7.out).mono ?_;rintro e w7' ⟨rfl,rfl⟩
 go_wp2_with fail
 refine(iQ 5 64 g K1 4 c1 2 1 0 _ BK7.out).mono ?_;rintro e w7' ⟨rfl,rfl⟩
 go_wp2_with fail
 refine(HC2.out g K1 4 c1 _ BK7.out KP7.out HB7.out.size (by decide) (by decide)).mono ?_;rintro e w8 ⟨A2,m2,cm2,L2,K2,n2,c2,rfl,F⟩;have HB8:=aa (ex HB7.out HG.out HB7.out.size KP7.out (ac _) F.mods);have M2:=F.len;obtain⟨k2,e2⟩:=tg F.map;have R2:=F.row;rw[e2]at R2;obtain⟨gl,Q2,rfl,x2⟩:=R2.row.first;have X8:=aa x2;have BK8:Hid (Bk w8 g SmT (smC 5 64 K2 n2 c2 9 2 7)):=aa F.bk;have N2:n2=0:=F.kp.len.symm;clear F HC2 R2 e2 x2 KP7 BK7 HB7 KF F1;dsimp only[bM,eC]at M2⊢;subst M2 N2
 go_wp2_with fail
 refine(pO 5 64 g K2 0 c2 9 2 7 (by decide) _ _ BK8.out).mono ?_;rintro e w8' ⟨rfl,hb⟩;have HB8:=aa (HB8.out.trans (hb.mono HB8.out.size));have BK8:=aa (BK8.out.below hb BK8.out.lt);have X8:=aa (X8.out.below hb X8.out.lt);clear hb
 go_wp2_with fail
 refine(iz _).mono ?_;rintro e w8' ⟨rfl,hb⟩;have HB8:=aa (HB8.out.trans (hb.mono HB8.out.size));have BK8:=aa (BK8.out.below hb BK8.out.lt);have X8:=aa (X8.out.below hb X8.out.lt);clear hb
 go_wp2_with fail
 refine(fm 5 64 0 _).mono ?_;rintro e w9 ⟨hb,h⟩;rw[if_pos (by decide)]at h;obtain⟨g',rfl,hg,bk⟩:=h;have HB9:=aa (HB8.out.trans (hb.mono HB8.out.size));have HG':=aa (aC HB8.out.size hg);have BL9:=aa bk
 have BK9:=aa (BK8.out.below hb BK8.out.lt);have X9:=aa (X8.out.below hb X8.out.lt)
 have HNG:Hid (g≠g'):=aa (by have:=BK8.out.lt;omega);clear hb hg bk HB8 BK8 X8
 go_wp2_with fail
 refine(HC3.out g' _ BL9.out HB9.out.size (by decide) (by decide)).mono ?_;rintro e w10 ⟨A3,m3,cm3,L3,K3,n3,c3,rfl,F⟩;have HB10:=aa (ex HB9.out HG'.out HB9.out.size (Kp.none w w9) (ac _) F.mods);have BK10:=aa (BK9.out.fed (by decide) HNG.out (Kp.none w w9) F.mods);have X10:=aa (X9.out.fed (by decide) (X9.out.ne BL9.out (by decide)) (Kp.none w w9) F.mods);have N3:n3=2:=F.kp.len.symm;subst N3;have BL10:Hid (Bk w10 g' SmT (smC 5 64 K3 2 c3 0 0 0)):=aa F.bk;have KL10:Hid (Kp w w10 K3 2 c3 (ls ⟨#[48,62]⟩)):=aa F.kp;clear F HC3 HB9 BK9 X9 BL9;dsimp only
 go_wp2_with fail
 refine(HC4.out g' K3 2 c3 _ BL10.out KL10.out HB10.out.size (by decide) (by decide)).mono ?_;rintro e w11 ⟨A4,m4,cm4,L4,K4,n4,c4,rfl,F⟩;have HB11:=aa (ex HB10.out HG'.out HB10.out.size KL10.out (ac _) F.mods);have BK11:=aa (BK10.out.fed (by decide) HNG.out KL10.out F.mods);have X11:=aa (X10.out.fed (by decide) (X10.out.ne BL10.out (by decide)) KL10.out F.mods);have N4:n4=2:=F.kp.len.symm;subst N4;have BL11:Hid (Bk w11 g' SmT (smC 5 64 K4 2 c4 0 0 0)):=aa F.bk;clear F HC4 HB10 BK10 X10 BL10 KL10;dsimp only
 go_wp2_with fail
 refine(iz _).mono ?_;rintro e w11' ⟨rfl,hb⟩;have HB11:=aa (HB11.out.trans (hb.mono HB11.out.size));have BK11:=aa (BK11.out.below hb BK11.out.lt);have X11:=aa (X11.out.below hb X11.out.lt);have BL11:=aa (BL11.out.below hb BL11.out.lt);clear hb
 go_wp2_with fail
 refine(fm 5 64 0 _).mono ?_;rintro e w12 ⟨hb,h⟩;rw[if_pos (by decide)]at h;obtain⟨g'',rfl,hg,bk⟩:=h;have HB12:=aa (HB11.out.trans (hb.mono HB11.out.size));have HG'':=aa (aC HB11.out.size hg);have BM12:=aa bk
 have BK12:=aa (BK11.out.below hb BK11.out.lt);have X12:=aa (X11.out.below hb X11.out.lt);have BL12:=aa (BL11.out.below hb BL11.out.lt)
 have HN1:Hid (g≠g''):=aa (by have:=BK11.out.lt;omega);have HN2:Hid (g'≠g''):=aa (by have:=BL11.out.lt;omega);clear hb hg bk HB11 BK11 X11 BL11
 go_wp2_with fail
 refine(HC5.out g'' _ BM12.out HB12.out.size (by decide) (by decide)).mono ?_;rintro e w13 ⟨A5,m5,cm5,L5,K5,n5,c5,rfl,F⟩;have HB13:=aa (ex HB12.out HG''.out HB12.out.size (Kp.none w w12) (ac _) F.mods);have BK13:=aa (BK12.out.fed (by decide) HN1.out (Kp.none w w12) F.mods);have BL13:=aa (BL12.out.fed (by decide) HN2.out (Kp.none w w12) F.mods);have X13:=aa (X12.out.fed (by decide) (X12.out.ne BM12.out (by decide)) (Kp.none w w12) F.mods);have N5:n5=0:=F.kp.len.symm;subst N5;have BM13:Hid (Bk w13 g'' SmT (smC 5 64 K5 0 c5 0 0 4)):=aa F.bk;clear F HC5 HB12 BK12 X12 BL12 BM12;dsimp only;have k0:w13.cell? ⟨gl,6,none⟩=some (.string ⟨#[120]⟩):=X13.out.first (r:=6) (by decide)
 go_wp2_with fail
 refine(Ca _ _).mono ?_;rintro e w13' ⟨rfl,rfl⟩
 go_wp2_with fail
 refine(lS 5 64 g K2 0 c2 9 2 7 _ BK13.out).mono ?_;rintro e w13' ⟨rfl,rfl⟩
 go_wp2_with fail
 refine(mV 5 64 g K2 0 c2 9 2 7 _ BK13.out).mono ?_;rintro e w13' ⟨rfl,rfl⟩
 go_wp2_with fail
 refine(gQ 5 64 g K2 0 c2 9 2 7 _ BK13.out).mono ?_;rintro e w13' ⟨rfl,rfl⟩
 go_wp2_with fail
 refine(iQ 5 64 g K2 0 c2 9 2 7 _ BK13.out).mono ?_;rintro e w13' ⟨rfl,rfl⟩
 go_wp2_with fail
 refine(pN 5 64 g K2 0 c2 9 2 7 (by decide) _ BK13.out).mono ?_;rintro e w13' ⟨rfl,rfl⟩
 go_wp2_with fail
 refine(gQ 5 64 g' K4 2 c4 0 0 0 _ BL13.out).mono ?_;rintro e w13' ⟨rfl,rfl⟩
 go_wp2_with fail
 refine(gQ 5 64 g'' K5 0 c5 0 0 4 _ BM13.out).mono ?_;rintro e w13' ⟨rfl,rfl⟩
 go_wp2_with fail
 refine(Ek _).mono ?_;rintro e w13' ⟨rfl,rfl⟩
 go_wp2_with fail
 refine(FB _).mono ?_;rintro e w13' ⟨rfl,rfl⟩
 go_wp2_with fail
 refine(BZ _).mono ?_;rintro e w13' ⟨rfl,rfl⟩
 go_wp2_with fail
 refine(BV _).mono ?_;rintro e w13' ⟨rfl,rfl⟩
 go_wp2_with fail
 refine(BW _).mono ?_;rintro e w13' ⟨rfl,rfl⟩
 go_wp2
 go_ret
 exact⟨rfl,HB13.out⟩
end Go.Proofs.YtpcleamaieaefaaGreatDoor
namespace Go.Proofs.YtpcleamaieaefaaGreatDoor
open Go.ChangeShapes Go.WideShapes Go.ChangeAt Go.RowKit
def vh (c:Array Value):Obj→Obj
 | .cells _ t frozen=>.cells c t frozen
 | o=>o
def firstCells:Array Value:=(Go.Pinned.utf8FirstZ.map fun(n:Nat)=>Value.int .u8 n).toArray
def wI:Array Value:=#[.int .u8 128,.int .u8 191,.int .u8 160,.int .u8 191,.int .u8 128,.int .u8 159,.int .u8 144,.int .u8 191,.int .u8 128,.int .u8 143,
 .int .u8 0,.int .u8 0,.int .u8 0,.int .u8 0,.int .u8 0,.int .u8 0,.int .u8 0,.int .u8 0,.int .u8 0,.int .u8 0,.int .u8 0,.int .u8 0,.int .u8 0,.int .u8 0,.int .u8 0,.int .u8 0,.int .u8 0,.int .u8 0,.int .u8 0,.int .u8 0,.int .u8 0,.int .u8 0]
noncomputable def l7 (os:Os):World:=
 {World.holding Tryz.prog os ⟨#[],#[],[]⟩with heap:=((World.holding Tryz.prog os ⟨#[],#[],[]⟩).heap.modify 1 (vh firstCells)).modify 2 (vh wI)}
theorem qu (os:Os) (args:Array Value):laidMetH Tryz.prog [("unicode/utf8.acceptRanges",Rows.laid_unicode_utf8_acceptRanges),("unicode/utf8.first",Rows.laid_unicode_utf8_first)] ((l7 os).forCall (fun _ _=>0) ⟨#[],args,[]⟩).memory:=
 laidMetH_of_parts (laidMet_of_run' 8 (by kernel_rfl) (by kernel_rfl)) (by kernel_rfl)
end Go.Proofs.YtpcleamaieaefaaGreatDoor
namespace Go.Proofs.YtpcleamaieaefaaGreatDoor
open Go.RowKit
attribute [local go_sem ↓] bD bF bH bI bu
attribute [local go_sem] bc aD bh bg bK bJ bd aY be aO ax cI dC dB dt dj di dA dr dp dn bW co bO bZ bX cz cy cw cu ct cC cn bS bP bR
theorem tY {v mp md:Int} (h:nF v mp md=true):ba v=true:=by
 unfold nF at h;simp only[eh]at h;exact h.1
theorem nU (v:Int) (s y:ByteArray) (w:World):Calls Tryz.prog 5 #[.int .i64 v,.string s,.string y] w fun e w'=>e= .returned (.bool true)∧Below w.heap.size w w':=by
 go_enter Tryz.func5,Tryz.ntmps5
 go_wp2_with fail
 refine(lA _).mono ?_;rintro e w0 ⟨rfl,hb⟩;have HB0:=aa hb;clear hb
 by_cases h1:600<s.size
 ·have d1:(600:Int)<(s.size:Int):=by omega
  clear h1
  go_wp2
  go_ret
  exact⟨rfl,HB0.out⟩
 have d1:(s.size:Int)≤600:=by omega
 have HS:Hid (s.size≤600):=aa (by omega);clear h1
 by_cases h1:600<y.size
 ·have d2:(600:Int)<(y.size:Int):=by omega
  clear h1
  go_wp2
  go_ret
  exact⟨rfl,HB0.out⟩
 have d2:(y.size:Int)≤600:=by omega
 have HY:Hid (y.size≤600):=aa (by omega);clear h1
 go_wp2_with fail
 refine(fm v 512 0 _).mono ?_;rintro e w1 ⟨hb,h⟩;have HB1:=aa (HB0.out.trans (hb.mono HB0.out.size))
 by_cases hok:nF v 512 0=true
 rotate_left
 ·rw[ae hok]at h;subst h;clear hok hb HB0
  go_wp2
  go_ret
  exact⟨rfl,HB1.out⟩
 rw[if_pos hok]at h;obtain⟨g,rfl,hg,bk⟩:=h;have HV:=aa (tY hok);have HG:=aa (aC HB0.out.size hg);have BK1:=aa bk
 clear hb hg bk hok HB0
 go_wp2_with fail
 refine(d9 v 512 g none 0 0 0 0 ⟨#[]⟩ s w _ BK1.out (Kp.none _ _) HB1.out.size (by have:=HS.out;omega) (by decide)).mono ?_;rintro e w2 ⟨A1,m1,cm1,L1,K1,n1,c1,rfl,F⟩;have HB2:=aa (ex HB1.out HG.out HB1.out.size (Kp.none w w1) (ac _) F.mods);have HE:=aa (sG v 512 _ (⟨#[]⟩++s) 0 0 [] (ac _));have HZ:Hid ((⟨#[]⟩++s:ByteArray).size≤600):=aa (by rw[cK];have:=HS.out;show 0+s.size≤600;omega);have BK2:=aa F.bk;have KP2:=aa F.kp
 obtain⟨⟨l,t,a,k,E⟩,hR⟩:∃r,smG v 512 (⟨#[]⟩++s) 0 0 []=r:=⟨_,rfl⟩;rw[hR]at BK2 KP2 HE⊢;dsimp only at BK2 KP2 HE⊢;clear F hR HB1 BK1
 by_cases hE:E=0
 rotate_left
 ·have e0:(E !=0)=true:=aA.2 hE;have HX:=aa hE;clear hE
  go_wp2_with fail
  refine(pN v 512 g K1 n1 c1 a k E HX.out _ BK2.out).mono ?_;rintro e w2' ⟨rfl,rfl⟩
  go_wp2
  go_ret
  exact⟨rfl,HB2.out⟩
 subst hE;have H3:=aa (HE.out.1 rfl);have HA:Hid (a≤600∧t.size≤600∧k≤600):=aa (by have:=HE.out.2.2.2.1;have:=HE.out.2.2.2.2.1;have:=HZ.out;omega);clear HE HZ
 go_wp2_with fail
 refine(iR v 512 g K1 n1 c1 a k 0 t w _ BK2.out KP2.out (by have:=HA.out;omega)).mono ?_;rintro e w3 ⟨rfl,hb⟩;have HB3:=aa (HB2.out.trans (hb.mono HB2.out.size));have BK3:=aa (BK2.out.below hb BK2.out.lt);have KP3:=aa (KP2.out.below hb)
 clear hb HB2 BK2 KP2;have HR:=aa (mT H3.out (by decide));obtain⟨q,hq⟩:∃q:Nat,fC v t 0=(q:Int):=⟨(fC v t 0).toNat,by have:=HR.out;omega⟩;have HQ:=aa hq;rw[hq];have r1:(1:Int)≤(q:Int):=by have:=HR.out;have:=HQ.out;omega
 have r2:(q:Int)≤512:=by have:=HR.out;have:=HQ.out;omega
 have HNN:Hid (n1=t.size):=aa (by rw[←KP3.out.len,aN]);clear hq
 by_cases hy:y.size<q
 ·have d3:(y.size:Int)<(q:Int):=by omega
  clear hy
  go_wp2
  go_ret
  exact⟨rfl,HB3.out⟩
 have d3:(q:Int)≤(y.size:Int):=by omega
 have HYQ:Hid (q≤y.size):=aa (by omega);clear hy;have hsub:wrap64 ((q:Int) - 1)=((q- 1:Nat):Int):=by unfold wrap64;omega
 have HM1:Hid ((y.extract 0 (q- 1)).size=q- 1):=aa (by rw[aj];have:=HYQ.out;omega);have HM2:Hid ((y.extract (q- 1) q).size=1):=aa (by rw[aj];have:=HYQ.out;omega);obtain⟨NL3,NL1⟩:=zM (m:=y.extract 0 (q- 1)) H3.out (by rw[HM1.out,HQ.out];omega);have N3:=aa NL3;have N1:=aa NL1
 clear NL3 NL1;have C2:=aa (d9 v 512 g K1 n1 c1 a k t (y.extract 0 (q- 1)) w w3 BK3.out KP3.out HB3.out.size (by have:=HNN.out;have:=HM1.out;have:=HA.out;omega) (by have:=HA.out;omega));rw[t6 N3.out]at C2
 go_wp2_with fail
 refine C2.out.mono ?_;rintro e w4 ⟨A2,m2,cm2,L2,K2,n2,c2,rfl,F⟩;have HB4:=aa (ex HB3.out HG.out HB3.out.size KP3.out (ac _) F.mods);have BK4:=aa F.bk;have KP4:=aa F.kp
 have M2:=F.len;dsimp only[eC]at BK4 KP4 M2⊢;subst M2;clear F C2 BK3 KP3 HB3;have HN4:Hid (n2=t.size+(q- 1)):=aa (by rw[←KP4.out.len,aN,cK,HM1.out]);have HJ:Hid (t++y.extract 0 (q- 1)++y.extract (q- 1) q=t++y.extract 0 q):=aa (eX (by
  have h0:q- 1+1=q:=by have:=HQ.out;omega
  have h1:=db y (q- 1) 1;rw[h0]at h1;rw[fe,fe,fe,ix,ix,h1,List.append_assoc,←List.take_add,h0]))
 have C3:=fun W hb hk h0=>d9 v 512 g K2 n2 c2 a k (t++y.extract 0 (q- 1)) (y.extract (q- 1) q) w W hb hk h0 (by have:=HN4.out;have:=HM2.out;have:=HA.out;omega) (by have:=HA.out;omega);rw[HJ.out]at C3;have HC3:=aa C3;clear C3 HJ
 by_cases hq1:q=1
 ·have d4:(q:Int)≤1:=by omega
  have e1:((q:Int)==1)=true:=aK.2 (by omega);clear hq1
  go_wp2_with fail
  refine(iQ v 512 g K2 n2 c2 a k 0 _ BK4.out).mono ?_;rintro e w5 ⟨rfl,rfl⟩
  go_wp2_with fail
  refine(HC3.out _ BK4.out KP4.out HB4.out.size).mono ?_;rintro e w6 ⟨A3,m3,cm3,L3,K3,n3,c3,rfl,F⟩;have HB6:=aa (ex HB4.out HG.out HB4.out.size KP4.out (ac _) F.mods);clear F HC3 BK4 KP4
  go_wp2
  go_ret
  exact⟨rfl,HB6.out⟩
 have d4:(1:Int)<(q:Int):=by omega
 have e1:((q:Int)==1)=false:=ar.2 (by omega);have NJ:=aa (zN HV.out (m:=y.extract 0 q) H3.out (by rw[HQ.out,aj];have:=HYQ.out;omega) (by rw[HQ.out];omega) a k);clear hq1
 go_wp2_with fail
 have HND:=aa (iR v 512 g K2 n2 c2 a k 0 (t++y.extract 0 (q- 1)) w _ BK4.out KP4.out (by rw[cK,HM1.out];have:=HA.out;omega));rw[N1.out]at HND;refine HND.out.mono ?_;rintro e w5 ⟨rfl,hb⟩;have HB5:=aa (HB4.out.trans (hb.mono HB4.out.size));have BK5:=aa (BK4.out.below hb BK4.out.lt);have KP5:=aa (KP4.out.below hb)
 clear hb HND BK4 KP4 HB4
 go_wp2_with fail
 refine(iQ v 512 g K2 n2 c2 a k 0 _ BK5.out).mono ?_;rintro e w6 ⟨rfl,rfl⟩
 go_wp2_with fail
 refine(HC3.out _ BK5.out KP5.out HB5.out.size).mono ?_;rintro e w6 ⟨A3,m3,cm3,L3,K3,n3,c3,rfl,F⟩;have HB6:=aa (ex HB5.out HG.out HB5.out.size KP5.out (ac _) F.mods);have BK6:=aa F.bk;have M3:=F.len;obtain⟨⟨l3,t3,a3,k3,E3⟩,hR3⟩:∃r,smG v 512 (t++y.extract 0 q) a k []=r:=⟨_,rfl⟩;rw[hR3]at NJ BK6 M3⊢;dsimp only at NJ BK6 M3⊢;clear F HC3 BK5 KP5 HB5 hR3
 by_cases hE:E3=0
 rotate_left
 ·have e0:(E3 !=0)=true:=aA.2 hE;clear hE
  go_wp2
  go_ret
  exact⟨rfl,HB6.out⟩
 obtain⟨J1,J2⟩:=NJ.out.resolve_left (fun x=>x hE);subst hE;rw[J1]at M3;subst M3;subst J2;have HAK:wrap64 ((k:Int)+1)=((k+1:Nat):Int):=by have:=HA.out;unfold wrap64;omega
 clear J1 NJ
 go_wp2_with fail
 refine(iQ v 512 g K3 n3 c3 a3 (k+1) 0 _ BK6.out).mono ?_;rintro e w7 ⟨rfl,rfl⟩
 go_wp2
 go_ret
 exact⟨by simp,HB6.out⟩
end Go.Proofs.YtpcleamaieaefaaGreatDoor
