/- Parts: OrdD, CntH, CntS, ConA, MFil, SubA. -/
import Derived.OrdersHeld
import Derived.Deep.RegionHeld
import Derived.Test.YtemooicddjimbaaGreatDoorTlG0MCnu
import Derived.Lib.SplitLaws
set_option maxRecDepth 10000
set_option maxHeartbeats 8000000
namespace Go.Proofs.YtemooicddjimbaaGreatDoor
open Go
open Go.Proofs.Tryz
section
variable {P:Program} {ops:Array Oper} {Q:Exit->Act->World->Prop} {md:Region.Mode} {S:World->Prop} {D:List Nat}
def pd(P:Program)(md:Region.Mode)(ops:Array Oper)(Q:Exit->Act->World->Prop)(S:World->Prop)(D:List Nat):Nat->Array Bool->Act->World->Prop
 | 0,listed,a,w=>Region.ready md ops listed=[]/\Q .normal a w
 | fuel+1,listed,a,w=>
   (Region.ready md ops listed=[]->Q .normal a w)/\
   ∀i∈Region.ready md ops listed,wpOp P ops Q i (fun a' w'=>((∀d∈D,(listed.setIfInBounds i true).getD d true=false)->S w')/\pd P md ops Q S D fuel (listed.setIfInBounds i true) a' w') a w
theorem vO:∀(fuel:Nat) (listed:Array Bool) (a:Act) (w:World),pd P md ops Q S D fuel listed a w->wpAny P md ops Q fuel listed a w
 | 0,_,_,_,h=>h
 | fuel+1,_,_,_,h=>⟨h.1,fun i hi=>wpOp_mono (fun a' w' h'=>vO fuel _ a' w' h'.2) (h.2 i hi)⟩
theorem tr{listed:Array Bool}{i:Nat}(h:listed.getD i true=false):listed.getD i false=false:=by
 rcases fj i listed.size with a| a
 ·simp[a]at h⊢;exact h
 ·simp[Array.getElem?_eq_none a]at h
def tH(md:Region.Mode)(ops:Array Oper)(i:Nat)(L:List Nat):Bool:=
 L.all fun j=>match ops[j]? with
  | some oj=>j !=i&&oj.after.any fun e=>Region.binds md e&&(e.on==i || L.contains e.on)
  | none=>false
theorem oW{i:Nat}{L:List Nat}(h:tH md ops i L=true)(j:Nat)(hj:j∈L):
  j≠i/\∃oj,ops[j]? =some oj/\∃e∈oj.after,Region.binds md e=true/\(e.on=i\/e.on∈L):=by
 have a:=dL.1 h j hj;split at a
 ·rename_i oj c;simp only[eh,aA]at a;obtain⟨e,d,b⟩:=Array.any_eq_true'.1 a.2;simp only[eh,Bool.or_eq_true,aK,IE]at b;exact⟨a.1,oj,c,e,d,b.1,b.2⟩
 ·cases a
theorem xE{i:Nat}{oi:Oper}{v:Value}{L:List Nat}(hi:ops[i]? =some oi)(hsel:∀(j:Nat) (o:Oper) cs b,ops[j]? =some o->o.op≠ .select cs b)
  (hQ:∀c a w,Q (.panic c) (a.put oi.dst v) w->Q (.panic c) a w)(hD:∀d∈D,d∈L)(hL:tH md ops i L=true):
  ∀(fuel:Nat) (listed:Array Bool) (a:Act) (w:World),
   (∀j oj,ops[j]? =some oj->j≠i->listed.getD j true=false->(∀e∈oj.after,Region.binds md e=true->e.on≠i)->oi.apart ops oj=true)->
   i∈Region.ready md ops listed->(∀j∈L,listed.getD j true=false)->YieldsIf P ops S oi v a->S w->
   pd P md ops Q S D fuel (listed.setIfInBounds i true) (a.put oi.dst v) w->pd P md ops Q S D (fuel+1) listed a w:=by
 intro fuel
 induction fuel with
 | zero=>
   intro listed a w _ n g I t H;refine⟨fun h=>(by rw[h]at n;cases n),fun j F=>?_⟩
   by_cases f:j=i
   ·subst f;exact I.wpOp hi t ⟨fun _=>t,H⟩
   ·have:=ready_mono F f;rw[H.1]at this;cases this
 | succ fuel ih=>
   intro listed a w p n g I t H;refine⟨fun h=>(by rw[h]at n;cases n),fun j F=>?_⟩
   by_cases f:j=i
   ·subst f;exact I.wpOp hi t ⟨fun _=>t,H⟩
   ·have C:=H.2 j (ready_mono F f);obtain⟨A,oj,r,u⟩:=mem_ready.1 F;have z:=(mem_ready.1 n).1;have M:∀e∈oj.after,Region.binds md e=true->e.on≠i:=fun e K J T=>by
     have C:=u e K J;rw[T,tr z]at C;cases C
    have l:j ∉ L:=fun l=>by
     obtain⟨-,Z,W,e,K,J,m⟩:=oW hL j l;have:Z=oj:=Option.some.inj (W.symm.trans r);subst this;have s:=u e K J;rcases m with m| m
     ·rw[m,tr z]at s;cases s
     ·rw[tr (g _ m)]at s;cases s
    have s:=wpOp_putIf r (p j oj r f A M) (fun cs b=>hsel i oi cs b hi) (fun cs b=>hsel j oj cs b r) hQ I C;have y:∀k ok,ops[k]? =some ok->k≠i->(listed.setIfInBounds j true).getD k true=false->
      (∀e∈ok.after,Region.binds md e=true->e.on≠i)->oi.apart ops ok=true:=fun k ok G U g V=>by
     refine p k ok G U ?_ V
     by_cases q:j=k
     ·subst q;exact A
     ·rw[getD_set_ne true q]at g;exact g
    have N:∀k∈L,(listed.setIfInBounds j true).getD k true=false:=fun k G=>by
     have q:j≠k:=fun h=>by rw[h]at l;exact l G
     rw[getD_set_ne true q];exact g k G
    have B:∀d∈D,((listed.setIfInBounds i true).setIfInBounds j true).getD d true=false:=fun d Y=>by
     have x:=hD d Y;have O:i≠d:=fun h=>(oW hL d x).1 h.symm;have R:j≠d:=fun h=>by rw[h]at l;exact l x
     rw[getD_set_ne true R,getD_set_ne true O];exact g d x
    refine wpOp_mono (fun X w' E=>⟨fun _=>E.2.1 B,ih (listed.setIfInBounds j true) X w' y (ready_mono n (Ne.symm f)) N E.1 (E.2.1 B) ?_⟩) s;rw[Array.setIfInBounds_comm _ _ f];exact E.2.2
def Gh(listed:Array Bool)(L:List Nat):Bool:=L.all fun j=>!listed.getD j true
theorem aJ{i:Nat}(L:List Nat){oi:Oper}{v:Value}{fuel:Nat}{listed:Array Bool}{a:Act}{w:World}(hi:ops[i]? =some oi)
  (hs:Region.noSelect ops=true)(hf:Region.free md ops listed i=true)(hr:(Region.ready md ops listed).contains i=true)
  (hL:tH md ops i L=true)(hD:(D.all fun d=>L.contains d)=true)(hn:Gh listed L=true)
  (hQ:∀c a w,Q (.panic c) (a.put oi.dst v) w->Q (.panic c) a w)(hy:YieldsIf P ops S oi v a)(hS:S w)
  (h:pd P md ops Q S D fuel (listed.setIfInBounds i true) (a.put oi.dst v) w):pd P md ops Q S D (fuel+1) listed a w:=
 xE (L:=L) hi (Region.noSelect_spec hs) hQ (fun d b=>by simpa using dL.1 hD d b) hL fuel listed a w (Region.free_spec hi hf) (by simpa using hr)
  (fun j e=>by simpa using dL.1 hn j e) hy hS h
theorem Uo{i:Nat}(L:List Nat){oi:Oper}{v:Value}{fuel:Nat}{listed:Array Bool}{a:Act}{w:World}(hi:ops[i]? =some oi)
  (hy:YieldsIf P ops S oi v a)(hS:S w)(h:pd P md ops Q S D fuel (listed.setIfInBounds i true) (a.put oi.dst v) w)
  (hs:Region.noSelect ops=true:=by kernel_rfl)(hf:Region.free md ops listed i=true:=by kernel_rfl)(hr:(Region.ready md ops listed).contains i=true:=by kernel_rfl)
  (hL:tH md ops i L=true:=by kernel_rfl)(hD:(D.all fun d=>L.contains d)=true:=by kernel_rfl)(hn:Gh listed L=true:=by kernel_rfl)
  (hQ:∀c a w,Q (.panic c) (a.put oi.dst v) w->Q (.panic c) a w:=by exact fun _ _ _ h=>h):pd P md ops Q S D (fuel+1) listed a w:=
 aJ L hi hs hf hr hL hD hn hQ hy hS h
theorem Yi(i:Nat)(L:List Nat){oi:Oper}{v:Value}{fuel:Nat}{listed:Array Bool}{a:Act}{w:World}(hi:ops[i]? =some oi)(hS:S w)(h:pd P md ops Q S D fuel (listed.setIfInBounds i true) (a.put oi.dst v) w)(hw:Region.wanted oi (yielded ops a.tmps)=true:=by rfl)(hv:∀w,S w->(execOp a.eval oi).run P w= .ok (.value v) w:=by intro w' g;(try dsimp only at g);go_simp;try with_reducible rfl)(hs:Region.noSelect ops=true:=by kernel_rfl)(hf:Region.free md ops listed i=true:=by kernel_rfl)(hr:(Region.ready md ops listed).contains i=true:=by kernel_rfl)(hL:tH md ops i L=true:=by kernel_rfl)(hD:(D.all fun d=>L.contains d)=true:=by kernel_rfl)(hn:Gh listed L=true:=by kernel_rfl)(hQ:∀c a w,Q (.panic c) (a.put oi.dst v) w->Q (.panic c) a w:=by exact fun _ _ _ h=>h):pd P md ops Q S D (fuel+1) listed a w:=aJ L hi hs hf hr hL hD hn hQ (Or.inl ⟨hw,hv⟩) hS h
theorem Yj(i:Nat){oi:Oper}{v:Value}{fuel:Nat}{listed:Array Bool}{a:Act}{w:World}(hi:ops[i]? =some oi)(h:wpAny P md ops Q fuel (listed.setIfInBounds i true) (a.put oi.dst v) w)(hw:Region.wanted oi (yielded ops a.tmps)=true:=by rfl)(hv:∀w,(execOp a.eval oi).run P w= .ok (.value v) w:=by intro w';go_simp;try with_reducible rfl)(hs:Region.noSelect ops=true:=by kernel_rfl)(hf:Region.free md ops listed i=true:=by kernel_rfl)(hr:(Region.ready md ops listed).contains i=true:=by kernel_rfl)(hQ:∀c a w,Q (.panic c) (a.put oi.dst v) w->Q (.panic c) a w:=by exact fun _ _ _ h=>h):wpAny P md ops Q (fuel+1) listed a w:=Qw hi hs hf hr hQ (Or.inl ⟨hw,hv⟩) h
def ep(P:Program)(md:Region.Mode)(ops:Array Oper)(Q:Exit->Act->World->Prop)(S:World->Prop)(D:List Nat)(fuel:Nat)(listed:Array Bool)(a:Act)(w:World)(rs:List Nat):Prop:=
 ∀i∈rs,wpOp P ops Q i (fun a' w'=>((∀d∈D,(listed.setIfInBounds i true).getD d true=false)->S w')/\pd P md ops Q S D fuel (listed.setIfInBounds i true) a' w') a w
theorem ep.nil{fuel:Nat}{listed:Array Bool}{a:Act}{w:World}:ep P md ops Q S D fuel listed a w []:=fun _ h=>by cases h
theorem ep.cons{fuel:Nat}{listed:Array Bool}{a:Act}{w:World}{i:Nat}{o:Oper}{rs:List Nat}(ho:ops[i]? =some o)
  (h:∀K':Act->World->Prop,Shut (∀a w,((∀d∈D,(listed.setIfInBounds i true).getD d true=false)->S w)->pd P md ops Q S D fuel (listed.setIfInBounds i true) a w->K' a w)->if Region.wanted o (yielded ops a.tmps)=true then Oper.wp P o a w K' Q else K' (a.put o.dst undef) w)
  (hs:ep P md ops Q S D fuel listed a w rs):ep P md ops Q S D fuel listed a w (i :: rs):=fun j b=>by
 rcases ie.1 b with rfl| b
 ·exact wpOp_step ho (fun K' c=>h K' (fun a w e f=>c a w ⟨e,f⟩))
 ·exact hs j b
theorem cq{rs:List Nat}{fuel:Nat}{listed:Array Bool}{a:Act}{w:World}(hr:Region.ready md ops listed=rs)(hne:rs≠[])
  (h:ep P md ops Q S D fuel listed a w rs):pd P md ops Q S D (fuel+1) listed a w:=⟨fun b=>absurd (hr▸b) hne,hr▸h⟩
theorem oh{listed:Array Bool}{a:Act}{w:World}(hr:Region.ready md ops listed=[])(h:Q .normal a w):
  ∀fuel,pd P md ops Q S D fuel listed a w
 | 0=>⟨hr,h⟩
 | _+1=>⟨fun _=>h,by rw[hr];simp⟩
theorem yF{listed:Array Bool}{i d:Nat}(h:listed.getD d true=true):(listed.setIfInBounds i true).getD d true=true:=by
 by_cases b:i=d
 ·subst b;rcases fj i listed.size with a| a
  ·simp[a]
  ·simp[Array.getElem?_eq_none a,Array.setIfInBounds_eq_of_size_le a]
 ·rw[getD_set_ne true b];exact h
theorem mc{d:Nat}(hd:d∈D):∀(fuel:Nat) (listed:Array Bool) (a:Act) (w:World),listed.getD d true=true->wpAny P md ops Q fuel listed a w->pd P md ops Q S D fuel listed a w
 | 0,_,_,_,_,h=>h
 | fuel+1,_,_,_,hl,h=>⟨h.1,fun i hi=>wpOp_mono (fun a' w' h'=>⟨fun hn=>absurd ((yF hl).symm.trans (hn d hd)) (by decide),mc hd fuel _ a' w' (yF hl) h'⟩) (h.2 i hi)⟩
theorem tK{fuel:Nat}{listed:Array Bool}{a:Act}{w:World}{i:Nat}{o:Oper}{rs:List Nat}(ho:ops[i]? =some o)
  (h:∀K':Act->World->Prop,Shut (∀a w,wpAny P md ops Q fuel (listed.setIfInBounds i true) a w->K' a w)->if Region.wanted o (yielded ops a.tmps)=true then Oper.wp P o a w K' Q else K' (a.put o.dst undef) w)
  (hs:AllReady P md ops Q fuel listed a w rs):AllReady P md ops Q fuel listed a w (i :: rs):=AllReady.cons ho h hs
theorem Up(i:Nat){fuel:Nat}{listed:Array Bool}{a:Act}{w:World}{o:Oper}(ho:ops[i]? =some o)
  (h:∀K':Act->World->Prop,Shut (∀a w,((∀d∈D,(listed.setIfInBounds i true).getD d true=false)->S w)->pd P md ops Q S D fuel (listed.setIfInBounds i true) a w->K' a w)->if Region.wanted o (yielded ops a.tmps)=true then Oper.wp P o a w K' Q else K' (a.put o.dst undef) w)
  (hr:Region.ready md ops listed=[i]:=by kernel_rfl):pd P md ops Q S D (fuel+1) listed a w:=cq hr (by simp) (ep.cons ho h ep.nil)
theorem Uq(i:Nat){fuel:Nat}{listed:Array Bool}{a:Act}{w:World}{o:Oper}(ho:ops[i]? =some o)
  (h:∀K':Act->World->Prop,Shut (∀a w,wpAny P md ops Q fuel (listed.setIfInBounds i true) a w->K' a w)->if Region.wanted o (yielded ops a.tmps)=true then Oper.wp P o a w K' Q else K' (a.put o.dst undef) w)
  (hr:Region.ready md ops listed=[i]:=by kernel_rfl):wpAny P md ops Q (fuel+1) listed a w:=Qt hr (by simp) (tK ho h Qr)
theorem je{id:Nat}{a:Act}{w:World}(S:World->Prop)(D:List Nat)(hm:P.follows .mixedOrders=true)
  (h:pd P .any ops Q S D ops.size (Array.replicate ops.size false) a w.drew):(Code.region id ops true).wp P Q a w:=
 wp_region_any hm (vO _ _ _ _ h)
end
end Go.Proofs.YtemooicddjimbaaGreatDoor
namespace Go.Proofs.YtemooicddjimbaaGreatDoor
open Go.RowKit Go.Proofs.Tryz
section
attribute [local go_sem ↓] bD bF bH bI bu
attribute [local go_sem] bc aD bh bg bK bJ bd aY be aO ax cI dC dB dt dj di dA dr dp dn bW co YK bZ YM cz cy cw cu YL YP YB bS bP bR
theorem G9(s:ByteArray):(qE s).size<=65537:=by
 unfold qE;split
 ·unfold cQ;rw[cK,GW,fM];omega
 ·exact ag _
theorem Vm(s:ByteArray)(w:World)(hs:s.size<=4611686018427387904):
  Calls prog 213 #[.string s] w fun e w'=>e= .returned (.tuple #[.string (qE s),.int .i64 (if s.size<=65535 then 0 else 2)])/\Below w.heap.size w w':=mN s w hs
theorem Uv(s:ByteArray)(w:World)(hs:s.size<=4611686018427387904):
  Calls prog 151 #[.string s] w fun e w'=>e= .returned (.string (qE s))/\Below w.heap.size w w':=by
 go_enter func151,ntmps151
 go_wp2_with fail
 refine Yg (Vm s _ hs) fun b a=>?_;generalize (if s.size<=65535 then(0:Int)else 2)=E at*;go_wp2;go_ret;exact⟨rfl,a⟩
theorem VK(w:World)(x0 x1 x2 x3 x4 x5:ByteArray)(t:TypeId):∀(j:Nat) x,[x0,x1,x2,x3,x4,x5][j]? =some x->(w.alloc (.cells #[.string x0,.string x1,.string x2,.string x3,.string x4,.string x5] t)).cell? ⟨w.heap.size,0+j,none⟩=some (.string x):=by
 intro j x h;rw[bV,(Bk.fresh w t #[.string x0,.string x1,.string x2,.string x3,.string x4,.string x5]).cell];rcases j with _| _| _| _| _| _| j
 ·simp at h;subst h;rfl
 ·simp at h;subst h;rfl
 ·simp at h;subst h;rfl
 ·simp at h;subst h;rfl
 ·simp at h;subst h;rfl
 ·simp at h;subst h;rfl
 ·simp at h
theorem VL(w:World)(x0 x1 x2 x3:ByteArray)(t:TypeId):∀(j:Nat) x,[x0,x1,x2,x3][j]? =some x->(w.alloc (.cells #[.string x0,.string x1,.string x2,.string x3] t)).cell? ⟨w.heap.size,0+j,none⟩=some (.string x):=by
 intro j x h;rw[bV,(Bk.fresh w t #[.string x0,.string x1,.string x2,.string x3]).cell];rcases j with _| _| _| _| j
 ·simp at h;subst h;rfl
 ·simp at h;subst h;rfl
 ·simp at h;subst h;rfl
 ·simp at h;subst h;rfl
 ·simp at h
theorem UA(w:World)(x0 x1:ByteArray)(t:TypeId):∀(j:Nat) x,[x0,x1][j]? =some x->(w.alloc (.cells #[.string x0,.string x1] t)).cell? ⟨w.heap.size,0+j,none⟩=some (.string x):=by
 intro j x h;rw[bV,(Bk.fresh w t #[.string x0,.string x1]).cell];rcases j with _| _| j
 ·simp at h;subst h;rfl
 ·simp at h;subst h;rfl
 ·simp at h
theorem Jr(v k:Int)(l:List Pr):(tW v k l).size<=131075004:=by
 unfold tW;split
 ·exact ag _
 ·rw[GW]
  by_cases h:(aM k l).2=0
  ·exact(G6 k l h).2
  ·rw[Ix k l h];exact ag _
theorem Ut:∀l:List ByteArray,(qK l).size=(l.map ByteArray.size).sum
 | []=>rfl
 | x :: l=>by rw[qK,cK,Ut l];rfl
theorem OO{v:Int}{p:Pk}(x:eR v p=0)(h2:p.kind≠2):p.kind=1/\(v=4\/v=5)/\(0<=p.alive/\p.alive<65536/\0<=p.will.qos/\p.will.qos<=2):=by
 obtain⟨b,c,e,a⟩:=nq x;have d:p.kind=1:=(aR (show decide (p.kind=1\/p.kind=2)=true from c)).resolve_right h2;refine⟨d,aR (show decide (v=4\/v=5)=true from b),?_⟩;unfold dU at a;split at a
 ·cases a
 ·split at a
  ·cases a
  ·exact aR a
theorem U5(v:Int)(p:Pk)(h:Hs)(w:World)(ip:PkIn w w.heap.size p h)(ok:PkOk p)(h2:p.kind≠2):
  Calls prog 98 #[.int .i64 v,pkV p h] w fun e w'=>e= .returned (.tuple #[.string (if eR v p=0 then(EY v p,(0:Int))else(⟨#[]⟩,eR v p)).1,.int .i64 (if eR v p=0 then(EY v p,(0:Int))else(⟨#[]⟩,eR v p)).2])/\Below w.heap.size w w':=by
 have r:=aa ok;have S0:=aa ((St.start w).push ip);obtain⟨B,hB⟩:∃B,(if eR v p=0 then(EY v p,(0:Int))else(⟨#[]⟩,eR v p))=B:=⟨_,rfl⟩;rw[hB];have HE:=aa hB.symm;have l0:=S0.o.ld 0 rfl;have H2:=aa h2;clear ip ok h2 hB;go_enter func98,ntmps98
 go_wp2_with fail
 refine Yg (Zh v p h _ (S0.o.into 0 rfl) r.o) fun w1 f=>?_;have S1:=aa (S0.o.below f);clear f l0
 by_cases Q:eR v p=0
 rotate_left
 ·have e0:(eR v p !=0)=true:=aA.2 Q;have E:Hid (B=(⟨#[]⟩,eR v p)):=aa (by rw[HE.o,Fl Q]);clear Q;go_wp2;go_ret2;exact⟨by rw[E.o];rfl,S1.o.kept⟩
 have E:Hid (B=(EY v p,0)):=aa (by rw[HE.o,if_pos Q]);have HG:=aa (OO Q H2.o);rw[Q];have bF:=aa (NA p);obtain⟨I,aC⟩:∃I,flQ p=I:=⟨_,rfl⟩;have aZ:Hid (flN p=I):=aa (by rw[<-aC];exact(if_pos HG.o.1).symm);have aY:Hid (∀x:World,Calls prog 150 #[pkV p h] x fun e w'=>e= .returned (.int .i64 I)/\Below x.heap.size x w'):=aa (fun x=>by rw[<-aC];exact UZ p h x);clear aC;have a0:Hid (0<=I/\I<256):=aa (by rw[<-aZ.o];exact bF.o);obtain⟨vn,a5,bM⟩:∃m:Nat,Hid (v.toNat=m)/\IntKind.u64.wrap v=(m:Int):=⟨_,aa rfl,by rw[iZ];have:=HG.o.2.1;omega⟩;obtain⟨fn,a4,bN⟩:∃m:Nat,Hid (I.toNat=m)/\IntKind.u64.wrap I=(m:Int):=⟨_,aa rfl,by rw[iZ];have:=a0.o;omega⟩;obtain⟨an,a3,bO⟩:∃m:Nat,Hid (p.alive.toNat=m)/\IntKind.u64.wrap p.alive=(m:Int):=⟨_,aa rfl,by rw[iZ];have:=HG.o.2.2;omega⟩;have bG:Hid (vn<256):=aa (by have:=a5.out;have:=HG.o.2.1;omega);have bE:Hid (fn<256):=aa (by have:=a4.out;have:=a0.o;omega);have bC:Hid (an<65536):=aa (by have:=a3.out;have:=HG.o.2.2;omega);have k0:=(S1.o.cell 0 rfl 0).trans (cI _ _);have bQ:=(S1.o.cell 0 rfl 24).trans (bR _ _);clear Q
 go_wp2_with fail
 refine Yg (UG v p.kind p.props _ rfl r.o.props h.props.a h.props.c _ (S1.o.into 0 rfl).props r.o.len.2.2.2) fun w2 f=>?_;have S2:=aa (S1.o.below f);clear f k0 bQ
 have k0:=(S2.o.cell 0 rfl 0).trans (cI _ _);have e2:(p.kind==2)=false:=ar.2 H2.o;have u:Hid (yK v p=qK [i8,⟨(Yk v.toNat 1).toArray⟩,⟨(Yk (flN p).toNat 1).toArray⟩,⟨(Yk p.alive.toNat 2).toArray⟩,tW v p.kind p.props,qE p.client]):=aa rfl;rw[a5.out,aZ.o,a4.out,a3.out]at u;have W:=aa (Jr v p.kind p.props);have V:=aa (G9 p.client);obtain⟨T,hT⟩:∃T,tW v p.kind p.props=T:=⟨_,rfl⟩;rw[hT]at u W⊢;obtain⟨X1,ah⟩:∃X:ByteArray,(⟨(Yk vn 1).toArray⟩:ByteArray)=X:=⟨_,rfl⟩;obtain⟨X2,ai⟩:∃X:ByteArray,(⟨(Yk fn 1).toArray⟩:ByteArray)=X:=⟨_,rfl⟩;obtain⟨X3,aj⟩:∃X:ByteArray,(⟨(Yk an 2).toArray⟩:ByteArray)=X:=⟨_,rfl⟩;obtain⟨D1,ad⟩:∃X:ByteArray,qE p.client=X:=⟨_,rfl⟩;rw[ah,ai,aj,ad]at u;rw[ad]at V;have aq:Hid (X1.size=1/\X2.size=1/\X3.size=2):=aa ⟨by rw[<-ah,GW,fM],by rw[<-ai,GW,fM],by rw[<-aj,GW,fM]⟩;have P1:=aa (fun x:World=>pD vn 1 x (by have:=bG.o;omega) (by omega) (by omega));have P2:=aa (fun x:World=>pD fn 1 x (by have:=bE.o;omega) (by omega) (by omega));have P3:=aa (fun x:World=>pD an 2 x (by have:=bC.o;omega) (by omega) (by omega));have P4:=aa (fun x:World=>Uv p.client x (by have:=r.o.texts;omega));rw[ah]at P1;rw[ai]at P2;rw[aj]at P3;rw[ad]at P4;clear hT ah ai aj ad;have hN:(⟨#[0,4,77,81,84,84]⟩:ByteArray)=i8:=rfl;have ap:Hid (i8.size=6):=aa rfl
 go_wp2_with fail
 rw[hN];clear hN;have J0:=aa S2.o.drew;have i:=And.intro (J0.o.ld 0 rfl) (And.intro ((J0.o.cell 0 rfl 8).trans (dp _ _)) ((J0.o.cell 0 rfl 9).trans (dn _ _)));refine je (fun w'=>(kZ (.pointer (some ⟨w.heap.size,0,none⟩))).run prog w'= .ok (pkV p h) w'/\w'.cell? ⟨w.heap.size,8,none⟩=some (.int .i64 p.alive)/\w'.cell? ⟨w.heap.size,9,none⟩=some (.string p.client)) [15] (by kernel_rfl) ?_;refine Yi 0 [1,2,15] rfl i ?_;refine Yi 1 [2,15] rfl i ?_;refine Yi 3 [4,5,6,15] rfl i ?_;refine Yi 7 [8,9,10,15] rfl i ?_;refine Yi 8 [9,10,15] rfl i ?_;refine Yi 9 [10,15] rfl i ?_;refine Yi 11 [15] rfl i ?_;refine Yi 12 [13,14,15] rfl i ?_;refine Yi 13 [14,15] rfl i ?_;refine Up 2 rfl (fun K j=>?_);go_simp
 go_at_call 52
 refine Yg (P1.o _) fun z2 f=>?_;have J1:=aa (J0.o.below f);clear f i
 have i:=And.intro (J1.o.ld 0 rfl) (And.intro ((J1.o.cell 0 rfl 8).trans (dp _ _)) ((J1.o.cell 0 rfl 9).trans (dn _ _)));go_simp;refine j.out _ _ (fun _=>i) ?_;clear j K;refine Up 4 rfl (fun K j=>?_);go_simp
 go_at_call 150
 refine Yg (aY.o _) fun z4 f=>?_;have J2:=aa (J1.o.below f);clear f i
 have i:=And.intro (J2.o.ld 0 rfl) (And.intro ((J2.o.cell 0 rfl 8).trans (dp _ _)) ((J2.o.cell 0 rfl 9).trans (dn _ _)));go_simp;refine j.out _ _ (fun _=>i) ?_;clear j K;refine Yi 5 [6,15] rfl i ?_;refine Up 6 rfl (fun K j=>?_);go_simp
 go_at_call 52
 refine Yg (P2.o _) fun z6 f=>?_;have J3:=aa (J2.o.below f);clear f i
 have i:=And.intro (J3.o.ld 0 rfl) (And.intro ((J3.o.cell 0 rfl 8).trans (dp _ _)) ((J3.o.cell 0 rfl 9).trans (dn _ _)));go_simp;refine j.out _ _ (fun _=>i) ?_;clear j K;refine Up 10 rfl (fun K j=>?_);go_simp
 go_at_call 52
 refine Yg (P3.o _) fun b5 f=>?_;have J4:=aa (J3.o.below f);clear f i
 have i:=And.intro (J4.o.ld 0 rfl) (And.intro ((J4.o.cell 0 rfl 8).trans (dp _ _)) ((J4.o.cell 0 rfl 9).trans (dn _ _)));go_simp;refine j.out _ _ (fun _=>i) ?_;clear j K;refine Up 14 rfl (fun K j=>?_);go_simp
 go_at_call 151
 refine Yg (P4.o _) fun a8 f=>?_;have J5:=aa (J4.o.below f);clear f i
 have i:=And.intro (J5.o.ld 0 rfl) (And.intro ((J5.o.cell 0 rfl 8).trans (dp _ _)) ((J5.o.cell 0 rfl 9).trans (dn _ _)));go_simp;refine j.out _ _ (fun _=>i) ?_;clear j K;refine Up 15 rfl (fun K j=>?_);go_simp;refine j.out _ _ (fun hn=>absurd (hn 15 (by simp)) (by decide)) (mc (d:=15) (by simp) _ _ _ _ (by kernel_rfl) ?_);clear j K i;have J6:=aa (J5.o.alloc (.cells #[.string i8,.string X1,.string X2,.string X3,.string T,.string D1] 9));refine Uq 16 rfl (fun K j=>?_);go_simp
 go_at_call 149
 refine Yg (Uu [i8,X1,X2,X3,T,D1] 6 6 a8.heap.size 0 rfl _ (VK a8 _ _ _ _ _ _ _) (by simp) (by omega) (by omega) (by rw[Ut];simp only[List.map,SK,Ur];have:=ap.o;have:=aq.o;have:=W.o;have:=V.o;omega)) fun b7 f=>?_;have F:=aa (J6.o.below f);clear f
 go_simp;refine j.out _ _ ?_;clear j K;refine Uq 17 rfl (fun K j=>?_);go_simp;refine j.out _ _ ?_;clear j K;refine QB (by kernel_rfl) ?_ _;rw[<-u.o];have y:Hid ((yK v p).size<=131140700):=aa (by rw[u.o,Ut];simp only[List.map,SK,Ur];have:=ap.o;have:=aq.o;have:=W.o;have:=V.o;omega);have s:Hid (yJ v p=if p.hasWill=true then qK [yK v p,tW v 16 p.will.props,qE p.will.topic,qE p.will.payload]else yK v p):=aa rfl;have k:Hid (yI v p=if p.hasUser=true then qK [yJ v p,qE p.user]else yJ v p):=aa rfl;have g:Hid (EY v p=if p.hasPass=true then qK [yI v p,qE p.pass]else yI v p):=aa rfl;obtain⟨t,a1⟩:∃O,yK v p=O:=⟨_,rfl⟩;rw[a1]at u y s⊢;clear a1 u W V aq ap P1 P2 P3 P4 aY bM bN bO k0 e2;have bP:=(F.o.cell 0 rfl 14).trans (YM _ _);obtain⟨wb,a6⟩:∃b,p.hasWill=b:=⟨_,rfl⟩;rw[a6]at bP s;clear a6;cases wb
 ·rw[Fl (by decide)]at s;rw[s.o]at k;have uk:=(F.o.cell 0 rfl 10).trans (bW _ _);obtain⟨ub,N⟩:∃b,p.hasUser=b:=⟨_,rfl⟩;rw[N]at uk k;clear N;cases ub
  ·rw[Fl (by decide)]at k;rw[k.o]at g;have C:=(F.o.cell 0 rfl 12).trans (YK _ _);obtain⟨R,o⟩:∃b,p.hasPass=b:=⟨_,rfl⟩;rw[o]at C g;clear o;cases R
   ·rw[Fl (by decide)]at g;go_wp2;go_ret2;exact⟨by rw[E.o,g.o];rfl,F.o.kept⟩
   ·rw[if_pos rfl]at g;have S:=(F.o.cell 0 rfl 13).trans (bZ _ _)
    go_wp2_with fail
    refine Yg (Uv p.pass _ (by have:=r.o.texts;omega)) fun D f=>?_;have ax:=aa (F.o.below f);clear f C S
    have q:=aa (G9 p.pass);obtain⟨l,n⟩:∃X,qE p.pass=X:=⟨_,rfl⟩;rw[n]at g q⊢;clear n;have ay:=aa (ax.o.alloc (.cells #[.string t,.string l] 9))
    go_wp2_with fail
    refine Yg (Uu [t,l] 2 2 D.heap.size 0 rfl _ (UA D _ _ _) (by simp) (by omega) (by omega) (by rw[Ut];simp only[List.map,SK,Ur];have:=y.o;have:=q.out;omega)) fun zq f=>?_;have bI:=aa (ay.o.below f);clear f
    have z:Hid ((qK [t,l]).size<=131210700):=aa (by rw[Ut];simp only[List.map,SK,Ur];have:=y.o;have:=q.out;omega);obtain⟨b3,aD⟩:∃O,qK [t,l]=O:=⟨_,rfl⟩;rw[aD]at g z⊢;clear aD;go_wp2;go_ret2;exact⟨by rw[E.o,g.o];rfl,bI.o.kept⟩
  ·rw[if_pos rfl]at k;have uf:=(F.o.cell 0 rfl 11).trans (co _ _)
   go_wp2_with fail
   refine Yg (Uv p.user _ (by have:=r.o.texts;omega)) fun yu f=>?_;have ax:=aa (F.o.below f);clear f uk uf
   have U:=aa (G9 p.user);obtain⟨H,M⟩:∃X,qE p.user=X:=⟨_,rfl⟩;rw[M]at k U⊢;clear M;have ay:=aa (ax.o.alloc (.cells #[.string t,.string H] 9))
   go_wp2_with fail
   refine Yg (Uu [t,H] 2 2 yu.heap.size 0 rfl _ (UA yu _ _ _) (by simp) (by omega) (by omega) (by rw[Ut];simp only[List.map,SK,Ur];have:=y.o;have:=U.out;omega)) fun zu f=>?_;have ab:=aa (ay.o.below f);clear f
   have A:Hid ((qK [t,H]).size<=131210700):=aa (by rw[Ut];simp only[List.map,SK,Ur];have:=y.o;have:=U.out;omega);obtain⟨Y,aF⟩:∃O,qK [t,H]=O:=⟨_,rfl⟩;rw[aF]at k A⊢;clear aF;rw[k.o]at g;have C:=(ab.o.cell 0 rfl 12).trans (YK _ _);obtain⟨R,o⟩:∃b,p.hasPass=b:=⟨_,rfl⟩;rw[o]at C g;clear o;cases R
   ·rw[Fl (by decide)]at g;go_wp2;go_ret2;exact⟨by rw[E.o,g.o];rfl,ab.o.kept⟩
   ·rw[if_pos rfl]at g;have S:=(ab.o.cell 0 rfl 13).trans (bZ _ _)
    go_wp2_with fail
    refine Yg (Uv p.pass _ (by have:=r.o.texts;omega)) fun D f=>?_;have be:=aa (ab.o.below f);clear f C S
    have q:=aa (G9 p.pass);obtain⟨l,n⟩:∃X,qE p.pass=X:=⟨_,rfl⟩;rw[n]at g q⊢;clear n;have bf:=aa (be.o.alloc (.cells #[.string Y,.string l] 9))
    go_wp2_with fail
    refine Yg (Uu [Y,l] 2 2 D.heap.size 0 rfl _ (UA D _ _ _) (by simp) (by omega) (by omega) (by rw[Ut];simp only[List.map,SK,Ur];have:=A.o;have:=q.out;omega)) fun zq f=>?_;have bg:=aa (bf.o.below f);clear f
    have z:Hid ((qK [Y,l]).size<=131280700):=aa (by rw[Ut];simp only[List.map,SK,Ur];have:=A.o;have:=q.out;omega);obtain⟨bU,ae⟩:∃O,qK [Y,l]=O:=⟨_,rfl⟩;rw[ae]at g z⊢;clear ae;go_wp2;go_ret2;exact⟨by rw[E.o,g.o];rfl,bg.o.kept⟩
 ·rw[if_pos rfl]at s;have au:Hid ((tW v 16 p.will.props).size<=131075004/\(qE p.will.topic).size<=65537/\(qE p.will.payload).size<=65537):=aa ⟨Jr _ _ _,G9 _,G9 _⟩;have W1:=aa (fun(x:World) hr=>UG v 16 p.will.props _ rfl r.o.wp h.wp.a h.wp.c x hr r.o.len.1);have W2:=aa (fun x:World=>Uv p.will.topic x (by have:=r.o.texts;omega));have W3:=aa (fun x:World=>Uv p.will.payload x (by have:=r.o.texts;omega));obtain⟨WT,aJ⟩:∃X,tW v 16 p.will.props=X:=⟨_,rfl⟩;obtain⟨WA,aH⟩:∃X,qE p.will.topic=X:=⟨_,rfl⟩;obtain⟨WB,aI⟩:∃X,qE p.will.payload=X:=⟨_,rfl⟩;rw[aJ,aH,aI]at s au;rw[aJ]at W1;rw[aH]at W2;rw[aI]at W3;clear aJ aH aI
  go_wp2_with fail
  have J7:=aa F.o.drew;have i:=And.intro ((J7.o.cell 0 rfl 19).trans (YL _ _)) (And.intro ((J7.o.cell 0 rfl 15).trans (cz _ _)) ((J7.o.cell 0 rfl 16).trans (cy _ _)));refine je (fun w'=>w'.cell? ⟨w.heap.size,19,none⟩=some (.slice h.wp.a p.will.props.length h.wp.c)/\w'.cell? ⟨w.heap.size,15,none⟩=some (.string p.will.topic)/\w'.cell? ⟨w.heap.size,16,none⟩=some (.string p.will.payload)) [14] (by kernel_rfl) ?_;refine Yi 0 [14] rfl i ?_;refine Yi 1 [5,14] rfl i ?_;refine Yi 2 [3,4,5,14] rfl i ?_;refine Yi 3 [4,5,14] rfl i ?_;refine Yi 4 [5,14] rfl i ?_;refine Yi 6 [7,8,9,14] rfl i ?_;refine Yi 7 [8,9,14] rfl i ?_;refine Yi 8 [9,14] rfl i ?_;refine Yi 10 [11,12,13,14] rfl i ?_;refine Yi 11 [12,13,14] rfl i ?_;refine Yi 12 [13,14] rfl i ?_;refine Up 5 rfl (fun K j=>?_);go_simp
  go_at_call 148
  refine Yg (W1.o _ (J7.o.into 0 rfl).wp) fun z5 f=>?_;have J8:=aa (J7.o.below f);clear f i
  have i:=And.intro ((J8.o.cell 0 rfl 19).trans (YL _ _)) (And.intro ((J8.o.cell 0 rfl 15).trans (cz _ _)) ((J8.o.cell 0 rfl 16).trans (cy _ _)));go_simp;refine j.out _ _ (fun _=>i) ?_;clear j K;refine Up 9 rfl (fun K j=>?_);go_simp
  go_at_call 151
  refine Yg (W2.o _) fun z9 f=>?_;have J9:=aa (J8.o.below f);clear f i
  have i:=And.intro ((J9.o.cell 0 rfl 19).trans (YL _ _)) (And.intro ((J9.o.cell 0 rfl 15).trans (cz _ _)) ((J9.o.cell 0 rfl 16).trans (cy _ _)));go_simp;refine j.out _ _ (fun _=>i) ?_;clear j K;refine Up 13 rfl (fun K j=>?_);go_simp
  go_at_call 151
  refine Yg (W3.o _) fun a7 f=>?_;have JA:=aa (J9.o.below f);clear f i
  have i:=And.intro ((JA.o.cell 0 rfl 19).trans (YL _ _)) (And.intro ((JA.o.cell 0 rfl 15).trans (cz _ _)) ((JA.o.cell 0 rfl 16).trans (cy _ _)));go_simp;refine j.out _ _ (fun _=>i) ?_;clear j K;refine Up 14 rfl (fun K j=>?_);go_simp;refine j.out _ _ (fun hn=>absurd (hn 14 (by simp)) (by decide)) (mc (d:=14) (by simp) _ _ _ _ (by kernel_rfl) ?_);clear j K i;have JB:=aa (JA.o.alloc (.cells #[.string t,.string WT,.string WA,.string WB] 9));refine Uq 15 rfl (fun K j=>?_);go_simp
  go_at_call 149
  refine Yg (Uu [t,WT,WA,WB] 4 4 a7.heap.size 0 rfl _ (VL a7 _ _ _ _ _) (by simp) (by omega) (by omega) (by rw[Ut];simp only[List.map,SK,Ur];have:=y.o;have:=au.o;omega)) fun b6 f=>?_;have P:=aa (JB.o.below f);clear f
  go_simp;refine j.out _ _ ?_;clear j K;refine Uq 16 rfl (fun K j=>?_);go_simp;refine j.out _ _ ?_;clear j K;refine QB (by kernel_rfl) ?_ _;have J:Hid ((qK [t,WT,WA,WB]).size<=262346900):=aa (by rw[Ut];simp only[List.map,SK,Ur];have:=y.o;have:=au.o;omega);obtain⟨L,a2⟩:∃O,qK [t,WT,WA,WB]=O:=⟨_,rfl⟩;rw[a2]at s J⊢;clear a2 W1 W2 W3;rw[s.o]at k;have uk:=(P.o.cell 0 rfl 10).trans (bW _ _);obtain⟨ub,N⟩:∃b,p.hasUser=b:=⟨_,rfl⟩;rw[N]at uk k;clear N;cases ub
  ·rw[Fl (by decide)]at k;rw[k.o]at g;have C:=(P.o.cell 0 rfl 12).trans (YK _ _);obtain⟨R,o⟩:∃b,p.hasPass=b:=⟨_,rfl⟩;rw[o]at C g;clear o;cases R
   ·rw[Fl (by decide)]at g;go_wp2;go_ret2;exact⟨by rw[E.o,g.o];rfl,P.o.kept⟩
   ·rw[if_pos rfl]at g;have S:=(P.o.cell 0 rfl 13).trans (bZ _ _)
    go_wp2_with fail
    refine Yg (Uv p.pass _ (by have:=r.o.texts;omega)) fun D f=>?_;have az:=aa (P.o.below f);clear f C S
    have q:=aa (G9 p.pass);obtain⟨l,n⟩:∃X,qE p.pass=X:=⟨_,rfl⟩;rw[n]at g q⊢;clear n;have aB:=aa (az.o.alloc (.cells #[.string L,.string l] 9))
    go_wp2_with fail
    refine Yg (Uu [L,l] 2 2 D.heap.size 0 rfl _ (UA D _ _ _) (by simp) (by omega) (by omega) (by rw[Ut];simp only[List.map,SK,Ur];have:=J.o;have:=q.out;omega)) fun zq f=>?_;have bJ:=aa (aB.o.below f);clear f
    have z:Hid ((qK [L,l]).size<=262416900):=aa (by rw[Ut];simp only[List.map,SK,Ur];have:=J.o;have:=q.out;omega);obtain⟨b4,aE⟩:∃O,qK [L,l]=O:=⟨_,rfl⟩;rw[aE]at g z⊢;clear aE;go_wp2;go_ret2;exact⟨by rw[E.o,g.o];rfl,bJ.o.kept⟩
  ·rw[if_pos rfl]at k;have uf:=(P.o.cell 0 rfl 11).trans (co _ _)
   go_wp2_with fail
   refine Yg (Uv p.user _ (by have:=r.o.texts;omega)) fun yu f=>?_;have az:=aa (P.o.below f);clear f uk uf
   have U:=aa (G9 p.user);obtain⟨H,M⟩:∃X,qE p.user=X:=⟨_,rfl⟩;rw[M]at k U⊢;clear M;have aB:=aa (az.o.alloc (.cells #[.string L,.string H] 9))
   go_wp2_with fail
   refine Yg (Uu [L,H] 2 2 yu.heap.size 0 rfl _ (UA yu _ _ _) (by simp) (by omega) (by omega) (by rw[Ut];simp only[List.map,SK,Ur];have:=J.o;have:=U.out;omega)) fun zu f=>?_;have ac:=aa (aB.o.below f);clear f
   have A:Hid ((qK [L,H]).size<=262416900):=aa (by rw[Ut];simp only[List.map,SK,Ur];have:=J.o;have:=U.out;omega);obtain⟨Z,aG⟩:∃O,qK [L,H]=O:=⟨_,rfl⟩;rw[aG]at k A⊢;clear aG;rw[k.o]at g;have C:=(ac.o.cell 0 rfl 12).trans (YK _ _);obtain⟨R,o⟩:∃b,p.hasPass=b:=⟨_,rfl⟩;rw[o]at C g;clear o;cases R
   ·rw[Fl (by decide)]at g;go_wp2;go_ret2;exact⟨by rw[E.o,g.o];rfl,ac.o.kept⟩
   ·rw[if_pos rfl]at g;have S:=(ac.o.cell 0 rfl 13).trans (bZ _ _)
    go_wp2_with fail
    refine Yg (Uv p.pass _ (by have:=r.o.texts;omega)) fun D f=>?_;have bh:=aa (ac.o.below f);clear f C S
    have q:=aa (G9 p.pass);obtain⟨l,n⟩:∃X,qE p.pass=X:=⟨_,rfl⟩;rw[n]at g q⊢;clear n;have bi:=aa (bh.o.alloc (.cells #[.string Z,.string l] 9))
    go_wp2_with fail
    refine Yg (Uu [Z,l] 2 2 D.heap.size 0 rfl _ (UA D _ _ _) (by simp) (by omega) (by omega) (by rw[Ut];simp only[List.map,SK,Ur];have:=A.o;have:=q.out;omega)) fun zq f=>?_;have bj:=aa (bi.o.below f);clear f
    have z:Hid ((qK [Z,l]).size<=262486900):=aa (by rw[Ut];simp only[List.map,SK,Ur];have:=A.o;have:=q.out;omega);obtain⟨bV,ag⟩:∃O,qK [Z,l]=O:=⟨_,rfl⟩;rw[ag]at g z⊢;clear ag;go_wp2;go_ret2;exact⟨by rw[E.o,g.o];rfl,bj.o.kept⟩
theorem aap(v:Int)(p:Pk)(h:Hs)(w:World)(ip:PkIn w w.heap.size p h)(ok:PkOk p):
  Calls prog 98 #[.int .i64 v,pkV p h] w fun e w'=>e= .returned (.tuple #[.string (Dm v p).1,.int .i64 (Dm v p).2])/\Below w.heap.size w w':=by
 by_cases a:p.kind=2
 ·have b:Dm v p=Fg v p:=if_pos a;rw[b];exact U4 v p h w ip ok a
 ·have b:Dm v p=if eR v p=0 then(EY v p,0)else(⟨#[]⟩,eR v p):=Fl a;rw[b];exact U5 v p h w ip ok a
theorem VJ{v:Int}{p:Pk}(x:eR v p≠0):Dm v p=(⟨#[]⟩,eR v p):=by
 unfold Dm Fg;rw[Fl x,Fl x];split<;>rfl
theorem SR.of{gp:Nat}{v:Value}{W y:World}(hk:W.cell? ⟨gp,0,none⟩=some v)(hb:Below W.heap.size W y):SR gp v W y:=⟨(hb.cell (p:=⟨gp,0,none⟩) (eY _ _ hk)).trans hk,hb⟩
def qH(k:Int):Bool:=decide (12<=k/\k<=15)
def fO(v k:Int):Bool:=decide ((k=14\/k=15)/\v=5)
def jR(v k:Int):Int:=if qH k=false\/¬(v=4\/v=5)then 2 else if k=15/\v=4 then 8 else 0
def conQ(v:Int)(p:Pk):Pk:=if fO v p.kind=true then aP p.kind 0 p.code p.props else aP p.kind 0 0 []
def fH(v:Int)(p:Pk):Int:=
 if jR v p.kind≠0 then jR v p.kind
 else if fO v p.kind=true/\may p.kind p.code=false then 2
 else if p≠conQ v p then 2
 else(aM p.kind p.props).2
def xV(code:Int)(l:List Pr)(k:Int):List UInt8:=if code<0\/255<code\/(aM k l).2≠0 then []else oG k code l
def Yq(v:Int)(p:Pk):List UInt8×Int:=if fH v p=0 then(xV p.code p.props p.kind,0)else([],fH v p)
def pK(k:Int)(s:ByteArray):Int:=if(dg k s 0).2.2.2≠0 then(dg k s 0).2.2.2 else if(dg k s 0).2.2.1<s.size then 5 else 0
def iO(k:Int)(s:ByteArray):Int×List Pr×Int:=if pK k s≠0 then(0,[],pK k s)else((dg k s 0).1,(dg k s 0).2.1,0)
def fA(v k:Int)(s:ByteArray):Int×List Pr×Int:=if fO v k=true then iO k s else(0,[],if s.size≠0 then 5 else 0)
def fN(v k:Int)(s:ByteArray):Pk:=aP k 0 (fA v k s).1 (fA v k s).2.1
def gX(v k:Int)(s:ByteArray):Pk×Int:=
 if jR v k≠0 then(pk0,jR v k)
 else if(fA v k s).2.2≠0 then(pk0,(fA v k s).2.2)
 else if fH v (fN v k s)≠0 then(pk0,fH v (fN v k s))
 else(fN v k s,0)
structure ConGood (v:Int) (p:Pk):Prop where
 k:jR v p.kind=0
 may:fO v p.kind=true->may p.kind p.code=true
 old:fO v p.kind=false->p.code=0/\p.props=[]
 same:p=conQ v p
 c1:0<=p.code
 c2:p.code<256
 bytes:(aM p.kind p.props).2=0
theorem Ap{v:Int}{p:Pk}(x:fH v p=0):ConGood v p:=by
 unfold fH at x;split at x
 ·next h=>exact absurd x h
 ·next hk=>
  split at x
  ·cases x
  ·next hm=>
   split at x
   ·cases x
   ·next hs=>
    have a:=aU.1 hs;have c:fO v p.kind=false->p.code=0/\p.props=[]:=fun f=>by
     have c:conQ v p=aP p.kind 0 0 []:=by unfold conQ;rw[Fl (by rw[f];decide)]
     rw[c]at a;exact⟨congrArg Pk.code a,congrArg Pk.props a⟩
    have b:fO v p.kind=true->Go.Proofs.YtemooicddjimbaaGreatDoor.may p.kind p.code=true:=fun g=>by
     cases e:Go.Proofs.YtemooicddjimbaaGreatDoor.may p.kind p.code
     ·exact absurd ⟨g,e⟩ hm
     ·rfl
    have d:0<=p.code/\p.code<256:=by
     cases e:fO v p.kind
     ·have:=(c e).1;omega
     ·exact Yp (b e)
    exact⟨aU.1 hk,b,c,a,d.1,d.2,x⟩
theorem ConGood.ok{v:Int}{p:Pk}(x:ConGood v p):fH v p=0:=by
 unfold fH;rw[Fl (fun h=>h x.k),Fl,Fl (fun h=>h x.same)]
 ·exact x.bytes
 ·rintro ⟨b,a⟩;rw[x.may b]at a;cases a
theorem ConGood.tail{v:Int}{p:Pk}(x:ConGood v p):xV p.code p.props p.kind=oG p.kind p.code p.props:=by
 unfold xV;rw[Fl];rintro (h| h| h)
 ·have:=x.c1;omega
 ·have:=x.c2;omega
 ·exact h x.bytes
theorem Mz{v:Int}{p:Pk}(g:ConGood v p)(hn:∀q∈p.props,q.n<4294967296){s:ByteArray}(hs:ls s=xV p.code p.props p.kind):gX v p.kind s=(p,0):=by
 rw[g.tail]at hs;have f:fA v p.kind s=(p.code,p.props,0):=by
  unfold fA;cases e:fO v p.kind
  ·rw[Fl (by decide)];obtain⟨b,c⟩:=g.old e;have j:oG p.kind p.code p.props=[]:=by unfold oG;rw[if_pos ⟨b,by rw[c];rfl⟩]
   rw[j]at hs;have:=congrArg List.length hs;rw[aN]at this;rw[b,c,Fl (fun x=>x this)]
  ·rw[if_pos rfl];have d:=JU (t:=s) (a:=0) (by rw[Yl];exact hs) (by omega) g.c1 g.c2 g.bytes hn;have h:pK p.kind s=0:=by
    unfold pK;rw[d];simp
   unfold iO;rw[h,Fl (by decide),d]
 have i:fN v p.kind s=p:=by
  unfold fN;rw[f];have:=g.same;unfold conQ at this;cases e:fO v p.kind
  ·obtain⟨b,c⟩:=g.old e;rw[Fl (by rw[e];decide)]at this;rw[b,c];exact this.symm
  ·rw[if_pos e]at this;exact this.symm
 unfold gX;rw[g.k,Fl (by decide),f,Fl (fun x=>x rfl),i,g.ok,Fl (by decide)]
theorem we{v k:Int}{s:ByteArray}(h:(fA v k s).2.2=0):oG k (fA v k s).1 (fA v k s).2.1=ls s:=by
 unfold fA at h⊢;cases e:fO v k
 ·rw[e,Fl (by decide)]at h;rw[Fl (by decide)];have d:s.size=0:=aU.1 fun x=>by simp only at h;rw[if_pos x]at h;cases h
  have:ls s=[]:=aF (by rw[aN];exact d);rw[this];rfl
 ·rw[e,if_pos rfl]at h;rw[if_pos rfl];unfold iO at h⊢;have b:pK k s=0:=aU.1 fun x=>by rw[if_pos x]at h;exact x h
  rw[Fl (fun x=>x b)];unfold pK at b;have c:(dg k s 0).2.2.2=0:=aU.1 fun x=>by rw[if_pos x]at b;exact x b
  rw[Fl (fun x=>x c)]at b;have f:¬(dg k s 0).2.2.1<s.size:=fun x=>by rw[if_pos x]at b;cases b
  have:=(rM (k:=k) (t:=s) (a:=0) (by omega) c (by omega)).1;rw[Yl]at this;exact this.symm
theorem An(v k:Int)(s:ByteArray):(gX v k s=(pk0,(gX v k s).2)/\(gX v k s).2≠0)\/
  ((gX v k s).2=0/\ConGood v (gX v k s).1/\(gX v k s).1.kind=k/\xV (gX v k s).1.code (gX v k s).1.props (gX v k s).1.kind=ls s):=by
 unfold gX
 by_cases c:jR v k≠0
 ·rw[if_pos c];exact .inl ⟨rfl,c⟩
 rw[Fl c]
 by_cases a:(fA v k s).2.2≠0
 ·rw[if_pos a];exact .inl ⟨rfl,a⟩
 rw[Fl a]
 by_cases b:fH v (fN v k s)≠0
 ·rw[if_pos b];exact .inl ⟨rfl,b⟩
 rw[Fl b];have g:=Ap (aU.1 b);refine .inr ⟨rfl,g,rfl,?_⟩;simp only;rw[g.tail];exact we (aU.1 a)
theorem mA{v k:Int}{s:ByteArray}(hs:s.size<=140737488351232):(∀p∈(fA v k s).2.1,ea p)/\(fA v k s).2.1.length<=1000:=by
 unfold fA;split
 ·unfold iO;split
  ·exact⟨by simp,ag _⟩
  ·exact⟨nN hs,nM k s 0⟩
 ·exact⟨by simp,ag _⟩
theorem EO{v k:Int}{s:ByteArray}(hs:s.size<=140737488351232):PkOk (gX v k s).1:=by
 have b:PkOk (fN v k s):=iw (mA hs).1 (by have:=(mA (v:=v) (k:=k) hs).2;omega);have a:PkOk pk0:=iw (k:=0) (i:=0) (c:=0) (l:=[]) (by simp) (by simp);unfold gX;split
 ·exact a
 ·split
  ·exact a
  ·split
   ·exact a
   ·exact b
end
end Go.Proofs.YtemooicddjimbaaGreatDoor
namespace Go.Proofs.YtemooicddjimbaaGreatDoor
open Go.RowKit Go.Shelf
open Go.Proofs.Tryz
def lvs(s:ByteArray):List ByteArray:=Lib.splitB ⟨#[47]⟩ 0 (Lib.countB s ⟨#[47]⟩) s
theorem lW(l:List UInt8)(c:UInt8)(j:Nat):Lib.occAt l [c] j=(l[j]? ==some c):=by
 unfold Lib.occAt;rw[<-List.head?_drop];cases l.drop j with
 | nil=>rfl
 | cons b t=>
   rw[eG];simp[List.isPrefixOf];exact eq_comm
theorem ZS{l:List UInt8}{c:UInt8}{i:Nat}(h:l[i]? =some c)(hn:∀j,j<i->l[j]? ≠some c):Lib.index l [c]=i:=by
 refine Lib.index_first ?_ ?_ ?_
 ·have:=(YI.1 h).1;omega
 ·rw[lW,h];simp
 ·intro j a;rw[lW];simpa using hn j a
theorem xc{l:List UInt8}{c:UInt8}(hn:∀j:Nat,l[j]? ≠some c):Lib.index l [c]= -1:=
 Lib.index_none fun j _=>by rw[lW];simpa using hn j
theorem Cm{s:ByteArray}(h:∀j:Nat,(ls s)[j]? ≠some 47):lvs s=[s]:=Lib.splitB_miss _ _ _ _ (xc h)
theorem Er{s:ByteArray}{i:Nat}(h:(ls s)[i]? =some 47)(hn:∀j:Nat,j<i->(ls s)[j]? ≠some 47):lvs s=s.extract 0 i :: lvs (s.extract (i+1) s.size):=by
 have a:Lib.indexB s ⟨#[47]⟩=i:=ZS h hn;have b:=Lib.countB_hit s ⟨#[47]⟩ i (by decide) a;unfold lvs;rw[b,Nat.add_comm 1,Lib.splitB_hit _ _ _ _ i a];rfl
theorem Zg(s:ByteArray):(lvs s).length=Lib.countB s ⟨#[47]⟩+1:=Lib.splitB_all _ (by decide) 0 _ s rfl
theorem Eo(s:ByteArray):(lvs s).length<=s.size+1:=by
 have:=Lib.countB_le ⟨#[47]⟩ (by decide) s.size s (ac _);rw[Zg];omega
theorem xk(s:ByteArray):(∀j:Nat,(ls s)[j]? ≠some 47)\/∃i,i<s.size/\(ls s)[i]? =some 47/\∀j:Nat,j<i->(ls s)[j]? ≠some 47:=by
 rcases Lib.index_spec (ls s) [47]with ⟨-,h⟩ | ⟨i,-,-,h,e⟩
 ·left
  intro j a;have b:=(YI.1 a).1;have:=h j (by omega);rw[lW,a]at this;simp at this
 ·right
  rw[lW]at h;have c:(ls s)[i]? =some 47:=by simpa using h
  have b:=(YI.1 c).1;refine⟨i,by rw[aN]at b;exact b,c,fun j a d=>?_⟩;have:=e j a;rw[lW,d]at this;simp at this
theorem Ep{C:ByteArray->Prop}(h1:∀s,(∀j:Nat,(ls s)[j]? ≠some 47)->C s)
  (h2:∀s i,i<s.size->(ls s)[i]? =some 47->(∀j:Nat,j<i->(ls s)[j]? ≠some 47)->C (s.extract (i+1) s.size)->C s)(s:ByteArray):C s:=by
 suffices h:∀n (t:ByteArray),t.size<=n->C t from h s.size s (ac _)
 intro n
 induction n with
 | zero=>
   intro t d;refine h1 t fun j b=>?_;have:=(YI.1 b).1;rw[aN]at this;omega
 | succ n ih=>
   intro t d;rcases xk t with h| ⟨i,a,h,c⟩
   ·exact h1 t h
   ·exact h2 t i a h c (ih _ (by rw[aj];omega))
theorem YD(s:ByteArray):∀x∈lvs s,x.size<=s.size:=by
 induction s using Ep with
 | h1 s h=>rw[Cm h];intro x a;simp at a;rw[a];exact ac _
 | h2 s i hi h hn ih=>
   rw[Er h hn];intro x a;rcases ie.1 a with rfl| a
   ·rw[aj];omega
   ·have:=ih x a;rw[aj]at this;omega
theorem P8(s:ByteArray):lvs s≠[]:=fun h=>by have:=Zg s;rw[h]at this;simp at this
def mi(x:ByteArray):Bool:=(x.toList==[43]) || (x.toList==[35])
def j8(x:ByteArray)(last:Bool):Bool:=!(((x.toList==[35])&& !last) || (!mi x&&mg x))
def jk(l:List ByteArray):Bool:=(List.range l.length).all fun i=>j8 (l.getD i ⟨#[]⟩) (decide (i+1=l.length))
def gj(s:ByteArray):Bool:=jY s&&jk (lvs s)
theorem aa1{l:List ByteArray}(h:∀i x,l[i]? =some x->j8 x (decide (i+1=l.length))=true):jk l=true:=by
 unfold jk;rw[dL];intro i a;have a:=gn.1 a;rw[List.getD_eq_getElem?_getD,List.getElem?_eq_getElem a];exact h i _ (List.getElem?_eq_getElem a)
theorem yA{l:List ByteArray}{i:Nat}{x:ByteArray}(hx:l[i]? =some x)(h:j8 x (decide (i+1=l.length))=false):jk l=false:=by
 unfold jk;rw[List.all_eq_false];have a:=(YI.1 hx).1;refine⟨i,gn.2 a,?_⟩;rw[List.getD_eq_getElem?_getD,hx];simp[h]
def Ju(x:ByteArray)(last:Bool):Bool:=!((Hh (ls x) 43&& !(x.toList==[43])) || (Hh (ls x) 35&&(!(x.toList==[35]) || !last)))
theorem Gc(x:ByteArray):x.toList=ls x:=Lib.toList_data x
theorem KV(x:ByteArray)(last:Bool):Ju x last=j8 x last:=by
 unfold Ju j8 mi;rw[Ky,Gc];generalize ls x=l
 by_cases a:l=[43]
 ·subst a;cases last<;>rfl
 ·by_cases b:l=[35]
  ·subst b;cases last<;>rfl
  ·rw[ar.2 a,ar.2 b];cases Hh l 43<;>cases Hh l 35<;>rfl
def jt:List ByteArray->List UInt8
 | []=>[]
 | x :: l=>47 :: (ls x++jt l)
def jn:List ByteArray->List UInt8
 | []=>[]
 | x :: l=>ls x++jt l
theorem Ou:∀l m,jt (l++m)=jt l++jt m
 | [],_=>rfl
 | x :: l,m=>by rw[IJ,jt,jt,Ou l m];simp
theorem PF(l:List ByteArray)(x:ByteArray):jn (l++[x])=if l=[]then ls x else jn l++47 :: ls x:=by
 cases l with
 | nil=>simp[jn,jt]
 | cons y l=>rw[Fl (by simp),IJ,jn,jn,Ou];simp[jt]
theorem On{s:ByteArray}{i:Nat}(h:(ls s)[i]? =some 47):ls s=ls (s.extract 0 i)++47 :: ls (s.extract (i+1) s.size):=by
 have a:ls (s.extract 0 i)=(ls s).take i:=by
  show(s.extract 0 i).data.toList=_;rw[Lib.extract_from_zero];rfl
 have b:ls (s.extract (i+1) s.size)=(ls s).drop (i+1):=by
  show(s.extract (i+1) s.size).data.toList=_;rw[Lib.extract_to_end];rfl
 obtain⟨d,c⟩:=YI.1 h;rw[a,b,<-c,<-bQ d,cg]
theorem Ov(s:ByteArray):jn (lvs s)=ls s:=by
 induction s using Ep with
 | h1 s h=>rw[Cm h];simp[jn,jt]
 | h2 s i hi h hn ih=>
   rw[Er h hn,On h];generalize a:lvs (s.extract (i+1) s.size)=L at*;cases L with
   | nil=>exact absurd a (P8 _)
   | cons y l=>rw[jn,jt];rw[jn]at ih;rw[ih]
end Go.Proofs.YtemooicddjimbaaGreatDoor
namespace Go.Proofs.YtemooicddjimbaaGreatDoor
open Go.RowKit Go.Shelf
open Go.Proofs.Tryz
theorem Lc(s:ByteArray)(p:Nat):s.get! p=((ls s)[p]?).getD 0:=by
 by_cases h:p<s.size
 ·rw[List.getElem?_eq_getElem (by rw[aN];exact h),Cz s p h];rfl
 ·rw[aG (by rw[aN];omega)];have a:¬p<s.data.size:=h;show s.data[p]! =_;show s.data[p]! =0;rw[Array.getElem!_eq_getD,Jf,Array.getElem?_eq_none (by omega)];rfl
theorem ix(s:ByteArray)(i:Nat):ls (s.extract 0 i)=(ls s).take i:=by
 show(s.extract 0 i).data.toList=_;rw[Lib.extract_from_zero];rfl
theorem Y9(s:ByteArray)(a:Nat):ls (s.extract a s.size)=(ls s).drop a:=by
 show(s.extract a s.size).data.toList=_;rw[Lib.extract_to_end];rfl
theorem II(s:ByteArray)(a p:Nat):(s.extract a s.size).get! p=s.get! (a+p):=by
 rw[Lc,Lc,Y9,List.getElem?_drop]
theorem Jj(s:ByteArray){i p:Nat}(h:p<i):(s.extract 0 i).get! p=s.get! p:=by
 rw[Lc,Lc,ix,List.getElem?_take,if_pos h]
theorem aa7(s:ByteArray)(a p:Nat):Utf8.decode (s.extract a s.size) p=Utf8.decode s (a+p):=by
 rw[Lib.decode_at,Lib.decode_at,II,II,II,II,aj,show min s.size s.size- a- p=s.size- (a+p) by omega];rfl
theorem rJ(s:ByteArray)(a:Nat):(s.extract a s.size).size=s.size- a:=by rw[aj];omega
theorem Js(s:ByteArray){i:Nat}(h:i<=s.size):(s.extract 0 i).size=i:=by rw[aj];omega
theorem Lk(s:ByteArray):∀f f' pos,s.size<=pos+f->s.size<=pos+f'->xD f s pos=xD f' s pos
 | 0,0,_,_,_=>rfl
 | 0,f'+1,pos,h,_=>by rw[xD,xD,Fl (by omega)]
 | f+1,0,pos,_,h=>by rw[xD,xD,Fl (by omega)]
 | f+1,f'+1,pos,h,h'=>by
   rw[xD,xD]
   by_cases hp:pos<s.size
   ·rw[if_pos hp,if_pos hp];have hw:=Lib.decode_width_pos s pos hp;rw[Lk s f f' _ (by omega) (by omega)]
   ·rw[Fl hp,Fl hp]
theorem Ll(s:ByteArray)(a:Nat):∀f p,(xD f (s.extract a s.size) p= -1↔xD f s (a+p)= -1)
 | 0,_=>Iff.rfl
 | f+1,p=>by
   rw[xD,xD,rJ,aa7]
   by_cases hp:a+p<s.size
   ·rw[if_pos (by omega),if_pos hp]
    by_cases hb:(Utf8.decode s (a+p)).1=0\/((Utf8.decode s (a+p)).1=65533/\(Utf8.decode s (a+p)).2=1)
    ·rw[if_pos hb,if_pos hb];omega
    ·rw[Fl hb,Fl hb,Ll s a f,Nat.add_assoc]
   ·rw[Fl (by omega),Fl hp]
theorem JT(s:ByteArray){pos i:Nat}(hlt:pos<i)(h:(s.get! i).toNat<128):pos+(Utf8.decode s pos).2<=i:=by
 rcases tw s pos with ⟨e,-⟩ | ⟨-,-,b⟩
 ·rw[e];exact hlt
 ·by_cases a:pos+(Utf8.decode s pos).2<=i
  ·exact a
  ·have:=b (i- pos) (by omega);rw[show pos+(i- pos)=i by omega]at this;omega
theorem Lj(s:ByteArray)(i:Nat)(hi:i<s.size)(h:(s.get! i).toNat<128):∀f pos,s.size<=pos+f->pos<=i->xD f s pos= -1->∃f',s.size<=i+f'/\xD f' s i= -1
 | 0,pos,hf,hp,_=>by omega
 | f+1,pos,hf,hp,hb=>by
   by_cases he:pos=i
   ·subst he;exact⟨f+1,hf,hb⟩
   ·have hw:=Lib.decode_width_pos s pos (by omega);have a:=JT s (pos:=pos) (by omega) h;rw[xD,if_pos (by omega)]at hb;split at hb
    ·omega
    ·exact Lj s i hi h f _ (by omega) a hb
theorem OE{n n' b0 b1 b2 b3 c1 c2 c3:Nat}(hb:Lib.decodeN n b0 b1 b2 b3≠(65533,1))(hw:(Lib.decodeN n b0 b1 b2 b3).2<=n')
  (h1:1<(Lib.decodeN n b0 b1 b2 b3).2->c1=b1)(h2:2<(Lib.decodeN n b0 b1 b2 b3).2->c2=b2)(h3:3<(Lib.decodeN n b0 b1 b2 b3).2->c3=b3):
  Lib.decodeN n' b0 c1 c2 c3=Lib.decodeN n b0 b1 b2 b3:=by
 rcases Lib.decodeN_shape n b0 b1 b2 b3 with ⟨a,e⟩ | ⟨a,g,b,c,e⟩ | ⟨a,g,b,c,d,f,e⟩ | ⟨a,g,b,c,d,f,h,e⟩ | e
 ·rw[e];unfold Lib.decodeN;rw[if_pos a]
 ·rw[e]at hw h1⊢;rw[h1 (by simp)];exact PY a hw b c
 ·rw[e]at hw h1 h2⊢;rw[h1 (by simp),h2 (by simp)];exact OH a hw b c d f
 ·rw[e]at hw h1 h2 h3⊢;rw[h1 (by simp),h2 (by simp),h3 (by simp)];exact PX a hw b c d f h
 ·exact absurd e hb
theorem NF(s:ByteArray){i p:Nat}(hp:p<i)(hi:i<=s.size)(hb:Utf8.decode s p≠(65533,1))(hw:p+(Utf8.decode s p).2<=i):Utf8.decode (s.extract 0 i) p=Utf8.decode s p:=by
 rw[Lib.decode_at]at hb hw;rw[Lib.decode_at,Lib.decode_at,Js s hi,Jj s hp];refine OE hb (by omega) (fun h=>?_) (fun h=>?_) (fun h=>?_)
 ·rw[Jj s (by omega)]
 ·rw[Jj s (by omega)]
 ·rw[Jj s (by omega)]
theorem Kx(s:ByteArray)(i:Nat)(hi:i<s.size)(h:(s.get! i).toNat<128):∀f pos,s.size<=pos+f->pos<=i->xD f s pos= -1->xD f (s.extract 0 i) pos= -1
 | 0,pos,hf,hp,_=>by omega
 | f+1,pos,hf,hp,hb=>by
   rw[xD,Js s (by omega)]
   by_cases he:pos=i
   ·rw[Fl (by omega)]
   ·have hw:=Lib.decode_width_pos s pos (by omega);have b:=JT s (pos:=pos) (by omega) h;rw[xD,if_pos (by omega)]at hb;rw[if_pos (by omega)];split at hb
    ·omega
    ·rename_i a;rw[NF s (by omega) (by omega) (fun e=>a (.inr (by rw[e];exact⟨rfl,rfl⟩))) b,Fl a];exact Kx s i hi h f _ (by omega) b hb
theorem KA{s:ByteArray}(hv:YF s=true){a i:Nat}(ha:a<s.size)(h1:(s.get! a).toNat<128)(h0:(s.get! a).toNat≠0)(hi:a+1+i<s.size)(h2:(s.get! (a+1+i)).toNat<128):
  YF ((s.extract (a+1) s.size).extract 0 i)=true:=by
 have o:=gL hv;have j:tI s= -1:=by unfold YF at hv;simp at hv;exact hv.2
 obtain⟨f1,m,c⟩:=Lj s a ha h1 s.size 0 (by omega) (by omega) j;obtain⟨b,n,d⟩:∃b,s.size<=a+1+b/\xD b s (a+1)= -1:=by
  cases f1 with
  | zero=>omega
  | succ f1=>
    have k:Utf8.decode s a=((s.get! a).toNat,1):=by
     rcases tw s a with ⟨e,-⟩ | ⟨-,-,l⟩
     ·exact e
     ·have:=Lib.decode_width_pos s a ha;have:=l 0 (by omega);rw[jV]at this;omega
    rw[xD,if_pos ha,k,Fl (by
     rintro (e| ⟨e,-⟩)
     ·exact h0 e
     ·simp only at e;omega)]at c
    exact⟨f1,by omega,c⟩
 have f:xD b (s.extract (a+1) s.size) 0= -1:=(Ll s (a+1) b 0).2 d;have p:=rJ s (a+1);have g:=Kx (s.extract (a+1) s.size) i (by omega) (by rw[II];exact h2) b 0 (by omega) (by omega) f;have h:=Js (s.extract (a+1) s.size) (i:=i) (by omega);unfold YF;rw[h,au (by omega),aL];refine aK.2 ?_;unfold tI;rw[Lk _ _ b 0 (by omega) (by omega),g]
def tt:List UInt8:=[36,115,104,97,114,101,47]
def gV(s:ByteArray):Bool:=tt.isPrefixOf (ls s)
def kY(s:ByteArray):ByteArray:=if gV s then s.extract 7 s.size else s
def ky(s:ByteArray):ByteArray×ByteArray×Bool:=
 if Lib.indexB s ⟨#[47]⟩= -1 then(s,⟨#[]⟩,false)else(s.extract 0 (Lib.indexB s ⟨#[47]⟩).toNat,s.extract ((Lib.indexB s ⟨#[47]⟩).toNat+1) s.size,true)
def fy(s:ByteArray):Bool:=gV s&&((ky (kY s)).2.2&&(YF s&&(fp (ky (kY s)).1&&gj (ky (kY s)).2.1)))
theorem Dc(s:ByteArray):(ky s).1.size<=s.size/\(ky s).2.1.size<=s.size:=by
 unfold ky;split
 ·exact⟨ac _,ag _⟩
 ·simp only[aj];omega
theorem Bd(s:ByteArray):(kY s).size<=s.size:=by
 unfold kY;split
 ·rw[aj];omega
 ·exact ac _
def KU(s:ByteArray):Bool:=
 YF s&&(gV s&&(decide (3<=(lvs s).length)&&((decide (((lvs s).getD 1 ⟨#[]⟩).size≠0)&& !(Hh (ls ((lvs s).getD 1 ⟨#[]⟩)) 43 || Hh (ls ((lvs s).getD 1 ⟨#[]⟩)) 35))&&gj ⟨(jn ((lvs s).drop 2)).toArray⟩)))
theorem vx{s:ByteArray}(h:gV s=true):7<=s.size/\(ls s)[6]? =some 47/\∀j,j<6->(ls s)[j]? ≠some 47:=by
 unfold gV at h;obtain⟨t,a⟩:=List.isPrefixOf_iff_prefix.1 h;have b:(ls s).length=7+t.length:=by rw[<-a];simp[tt];omega
 rw[aN]at b;refine⟨by omega,by rw[<-a];rfl,fun j c=>?_⟩;rw[<-a];have:j=0\/j=1\/j=2\/j=3\/j=4\/j=5:=by omega
 rcases this with rfl| rfl| rfl| rfl| rfl| rfl<;>simp[tt]
theorem Na(s:ByteArray):KU s=fy s:=by
 unfold KU fy;cases h:gV s
 ·simp
 cases p:YF s
 ·simp
 simp only[aL];obtain⟨q,g,j⟩:=vx h;have o:kY s=s.extract 7 s.size:=if_pos h;rw[o,Er g j];rcases xk (s.extract 7 s.size)with b| ⟨i,r,c,b⟩
 ·have e:Lib.indexB (s.extract 7 s.size) ⟨#[47]⟩= -1:=xc b;rw[show(6+1:Nat)=7 from rfl,Cm b];unfold ky;rw[if_pos e];rfl
 ·have e:Lib.indexB (s.extract 7 s.size) ⟨#[47]⟩=i:=ZS c b;rw[show(6+1:Nat)=7 from rfl,Er c b];have k:¬Lib.indexB (s.extract 7 s.size) ⟨#[47]⟩= -1:=by omega
  have n:ky (s.extract 7 s.size)=((s.extract 7 s.size).extract 0 i,(s.extract 7 s.size).extract (i+1) (s.extract 7 s.size).size,true):=by
   unfold ky;rw[Fl k,e];rfl
  rw[n];have d:3<=(s.extract 0 6 :: (s.extract 7 s.size).extract 0 i :: lvs ((s.extract 7 s.size).extract (i+1) (s.extract 7 s.size).size)).length:=by
   have:=Zg ((s.extract 7 s.size).extract (i+1) (s.extract 7 s.size).size);simp only[bM];omega
  rw[au d];simp only[aL,ji,Yl,List.getD_cons_succ,List.getD_cons_zero];rw[Ov,Ck]
  congr 1
  have t:=rJ s 7;have f:s.get! 6=47:=by rw[Lc,g];rfl
  have m:s.get! (6+1+i)=47:=by
   rw[<-II,Lc];rw[c];rfl
  have l:YF ((s.extract 7 s.size).extract 0 i)=true:=KA p (a:=6) (by omega) (by rw[f];decide) (by rw[f];decide) (by omega) (by rw[m];decide);unfold fp jY;rw[l,IK,Ky]
end Go.Proofs.YtemooicddjimbaaGreatDoor
namespace Go.Proofs.YtemooicddjimbaaGreatDoor
open Go.RowKit Go.Proofs.Tryz
def ir(v k:Int):Bool:=decide ((v=4\/v=5)/\8<=k/\k<=11)
def jm(k:Int):Bool:=decide (k=8\/k=10)
def pP(v k:Int):Bool:=decide (k=11/\v=4)
def sbQ(v:Int)(p:Pk):Pk:=
 if jm p.kind=true then {pk0 with kind:=p.kind,id:=p.id,props:=p.props,filters:=p.filters}
 else if pP v p.kind=true then {pk0 with kind:=p.kind,id:=p.id,props:=p.props}
 else {pk0 with kind:=p.kind,id:=p.id,props:=p.props,codes:=p.codes}
def lj(v:Int)(p:Pk):Bool:=if jm p.kind=true then decide (0<p.filters.length)else if pP v p.kind=true then true else decide (0<p.codes.length)
def eH(v:Int)(p:Pk):Bool:=!(decide (p.id<1) || (decide (65535<p.id) || (decide (v=4)&&decide (0<p.props.length))))&&(lj v p&&decide (p=sbQ v p))
def jZ(n:Int):Bool:=decide (0<=n)&&decide (n<3)
def l9(f:Fi):Bool:=decide (f=⟨f.topic,f.qos,false,false,0⟩)
def nT(v k:Int)(f:Fi):Bool:=
 if k=10 then l9 f&&decide (f.qos=0)else if v=4 then l9 f&&jZ f.qos else jZ f.qos&&(jZ f.handling&& !(fy f.topic&&f.noLocal))
def xF(v k c:Int):Bool:=if v=4 then tq c else may k c
def fiE(v k:Int):List Fi->Int
 | []=>0
 | f :: l=>if gj f.topic=false then 10 else if nT v k f=false then 2 else fiE v k l
def cdE(v k:Int):List Int->Int
 | []=>0
 | c :: l=>if xF v k c=false then 2 else cdE v k l
def xY(v:Int)(p:Pk):Bool:=ir v p.kind&&eH v p
def sbE(v:Int)(p:Pk):Int:=
 if xY v p=false then 2 else if(aM p.kind p.props).2≠0 then(aM p.kind p.props).2
 else if fiE v p.kind p.filters≠0 then fiE v p.kind p.filters else cdE v p.kind p.codes
end Go.Proofs.YtemooicddjimbaaGreatDoor
