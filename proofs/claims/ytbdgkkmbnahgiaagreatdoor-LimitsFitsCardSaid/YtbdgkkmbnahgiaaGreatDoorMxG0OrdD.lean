/- A part of what the laws stand on: OrdD, CntH, CntS, ConA, MFil, SubA. -/
import Derived.OrdersHeld
import Derived.Deep.RegionHeld
import Derived.Test.YtbdgkkmbnahgiaaGreatDoorMxG0MCnu
import Derived.Lib.SplitLaws
set_option maxRecDepth 10000
set_option maxHeartbeats 8000000
namespace Go.Proofs.YtbdgkkmbnahgiaaGreatDoor
open Go
open Go.Proofs.Tryz
section
variable {P:Program} {ops:Array Oper} {Q:Exit->Act->World->Prop} {md:Region.Mode} {S:World->Prop} {D:List Nat}
def pd(P:Program)(md:Region.Mode)(ops:Array Oper)(Q:Exit->Act->World->Prop)(S:World->Prop)(D:List Nat):Nat->Array Bool->Act->World->Prop
 | 0,listed,a,w=>Region.ready md ops listed=[]/\Q .normal a w
 | fuel+1,listed,a,w=>
   (Region.ready md ops listed=[]->Q .normal a w)/\
   ∀i∈Region.ready md ops listed,wpOp P ops Q i (fun a' w'=>((∀d∈D,(listed.setIfInBounds i true).getD d true=false)->S w')/\pd P md ops Q S D fuel (listed.setIfInBounds i true) a' w') a w
theorem vO:∀(fuel:Nat) (listed:Array Bool) (a:Act) (w:World),pd P md ops Q S D fuel listed a w->wpAny P md ops Q fuel listed a w
 | 0,_,_,_,h=>h
 | fuel+1,_,_,_,h=>⟨h.1,fun i hi=>wpOp_mono (fun a' w' h'=>vO fuel _ a' w' h'.2) (h.2 i hi)⟩
theorem tr{listed:Array Bool}{i:Nat}(h:listed.getD i true=false):listed.getD i false=false:=by
 rcases fj i listed.size with h'| h'
 ·simp[h']at h⊢;exact h
 ·simp[Array.getElem?_eq_none h']at h
def tH(md:Region.Mode)(ops:Array Oper)(i:Nat)(L:List Nat):Bool:=
 L.all fun j=>match ops[j]? with
  | some oj=>j !=i&&oj.after.any fun e=>Region.binds md e&&(e.on==i || L.contains e.on)
  | none=>false
theorem oW{i:Nat}{L:List Nat}(h:tH md ops i L=true)(j:Nat)(hj:j∈L):
  j≠i/\∃oj,ops[j]? =some oj/\∃e∈oj.after,Region.binds md e=true/\(e.on=i\/e.on∈L):=by
 have h1:=dL.1 h j hj;split at h1
 ·rename_i oj hoj;simp only[eh,aA]at h1;obtain⟨e,he,hb⟩:=Array.any_eq_true'.1 h1.2;simp only[eh,Bool.or_eq_true,aK,IE]at hb;exact⟨h1.1,oj,hoj,e,he,hb.1,hb.2⟩
 ·cases h1
theorem xE{i:Nat}{oi:Oper}{v:Value}{L:List Nat}(hi:ops[i]? =some oi)(hsel:∀(j:Nat) (o:Oper) cs b,ops[j]? =some o->o.op≠ .select cs b)
  (hQ:∀c a w,Q (.panic c) (a.put oi.dst v) w->Q (.panic c) a w)(hD:∀d∈D,d∈L)(hL:tH md ops i L=true):
  ∀(fuel:Nat) (listed:Array Bool) (a:Act) (w:World),
   (∀j oj,ops[j]? =some oj->j≠i->listed.getD j true=false->(∀e∈oj.after,Region.binds md e=true->e.on≠i)->oi.apart ops oj=true)->
   i∈Region.ready md ops listed->(∀j∈L,listed.getD j true=false)->YieldsIf P ops S oi v a->S w->
   pd P md ops Q S D fuel (listed.setIfInBounds i true) (a.put oi.dst v) w->pd P md ops Q S D (fuel+1) listed a w:=by
 intro fuel
 induction fuel with
 | zero=>
   intro listed a w _ hr hun hy hS H;refine⟨fun h=>(by rw[h]at hr;cases hr),fun j hj=>?_⟩
   by_cases hji:j=i
   ·subst hji;exact hy.wpOp hi hS ⟨fun _=>hS,H⟩
   ·have:=ready_mono hj hji;rw[H.1]at this;cases this
 | succ fuel ih=>
   intro listed a w hfree hr hun hy hS H;refine⟨fun h=>(by rw[h]at hr;cases hr),fun j hj=>?_⟩
   by_cases hji:j=i
   ·subst hji;exact hy.wpOp hi hS ⟨fun _=>hS,H⟩
   ·have h1:=H.2 j (ready_mono hj hji);obtain⟨hjun,oj,hoj,hall⟩:=mem_ready.1 hj;have hiun:=(mem_ready.1 hr).1;have hnot:∀e∈oj.after,Region.binds md e=true->e.on≠i:=fun e he hb heq=>by
     have h1:=hall e he hb;rw[heq,tr hiun]at h1;cases h1
    have hjL:j ∉ L:=fun hjL=>by
     obtain⟨-,o',ho',e,he,hb,hon⟩:=oW hL j hjL;have:o'=oj:=Option.some.inj (ho'.symm.trans hoj);subst this;have h2:=hall e he hb;rcases hon with hon| hon
     ·rw[hon,tr hiun]at h2;cases h2
     ·rw[tr (hun _ hon)]at h2;cases h2
    have h2:=wpOp_putIf hoj (hfree j oj hoj hji hjun hnot) (fun cs b=>hsel i oi cs b hi) (fun cs b=>hsel j oj cs b hoj) hQ hy h1;have hfree':∀k ok,ops[k]? =some ok->k≠i->(listed.setIfInBounds j true).getD k true=false->
      (∀e∈ok.after,Region.binds md e=true->e.on≠i)->oi.apart ops ok=true:=fun k ok hk hki hun hno=>by
     refine hfree k ok hk hki ?_ hno
     by_cases hjk:j=k
     ·subst hjk;exact hjun
     ·rw[getD_set_ne true hjk]at hun;exact hun
    have hunj:∀k∈L,(listed.setIfInBounds j true).getD k true=false:=fun k hk=>by
     have hjk:j≠k:=fun h=>by rw[h]at hjL;exact hjL hk
     rw[getD_set_ne true hjk];exact hun k hk
    have hunD:∀d∈D,((listed.setIfInBounds i true).setIfInBounds j true).getD d true=false:=fun d hd=>by
     have hdL:=hD d hd;have hdi:i≠d:=fun h=>(oW hL d hdL).1 h.symm;have hdj:j≠d:=fun h=>by rw[h]at hjL;exact hjL hdL
     rw[getD_set_ne true hdj,getD_set_ne true hdi];exact hun d hdL
    refine wpOp_mono (fun a' w' h3=>⟨fun _=>h3.2.1 hunD,ih (listed.setIfInBounds j true) a' w' hfree' (ready_mono hr (Ne.symm hji)) hunj h3.1 (h3.2.1 hunD) ?_⟩) h2;rw[Array.setIfInBounds_comm _ _ hji];exact h3.2.2
def Gh(listed:Array Bool)(L:List Nat):Bool:=L.all fun j=>!listed.getD j true
theorem aJ{i:Nat}(L:List Nat){oi:Oper}{v:Value}{fuel:Nat}{listed:Array Bool}{a:Act}{w:World}(hi:ops[i]? =some oi)
  (hs:Region.noSelect ops=true)(hf:Region.free md ops listed i=true)(hr:(Region.ready md ops listed).contains i=true)
  (hL:tH md ops i L=true)(hD:(D.all fun d=>L.contains d)=true)(hn:Gh listed L=true)
  (hQ:∀c a w,Q (.panic c) (a.put oi.dst v) w->Q (.panic c) a w)(hy:YieldsIf P ops S oi v a)(hS:S w)
  (h:pd P md ops Q S D fuel (listed.setIfInBounds i true) (a.put oi.dst v) w):pd P md ops Q S D (fuel+1) listed a w:=
 xE (L:=L) hi (Region.noSelect_spec hs) hQ (fun d hd=>by simpa using dL.1 hD d hd) hL fuel listed a w (Region.free_spec hi hf) (by simpa using hr)
  (fun j hj=>by simpa using dL.1 hn j hj) hy hS h
theorem Uo{i:Nat}(L:List Nat){oi:Oper}{v:Value}{fuel:Nat}{listed:Array Bool}{a:Act}{w:World}(hi:ops[i]? =some oi)
  (hy:YieldsIf P ops S oi v a)(hS:S w)(h:pd P md ops Q S D fuel (listed.setIfInBounds i true) (a.put oi.dst v) w)
  (hs:Region.noSelect ops=true:=by kernel_rfl)(hf:Region.free md ops listed i=true:=by kernel_rfl)(hr:(Region.ready md ops listed).contains i=true:=by kernel_rfl)
  (hL:tH md ops i L=true:=by kernel_rfl)(hD:(D.all fun d=>L.contains d)=true:=by kernel_rfl)(hn:Gh listed L=true:=by kernel_rfl)
  (hQ:∀c a w,Q (.panic c) (a.put oi.dst v) w->Q (.panic c) a w:=by exact fun _ _ _ h=>h):pd P md ops Q S D (fuel+1) listed a w:=
 aJ L hi hs hf hr hL hD hn hQ hy hS h
def ep(P:Program)(md:Region.Mode)(ops:Array Oper)(Q:Exit->Act->World->Prop)(S:World->Prop)(D:List Nat)(fuel:Nat)(listed:Array Bool)(a:Act)(w:World)(rs:List Nat):Prop:=
 ∀i∈rs,wpOp P ops Q i (fun a' w'=>((∀d∈D,(listed.setIfInBounds i true).getD d true=false)->S w')/\pd P md ops Q S D fuel (listed.setIfInBounds i true) a' w') a w
theorem ep.nil{fuel:Nat}{listed:Array Bool}{a:Act}{w:World}:ep P md ops Q S D fuel listed a w []:=fun _ h=>by cases h
theorem ep.cons{fuel:Nat}{listed:Array Bool}{a:Act}{w:World}{i:Nat}{o:Oper}{rs:List Nat}(ho:ops[i]? =some o)
  (h:∀K':Act->World->Prop,Shut (∀a w,((∀d∈D,(listed.setIfInBounds i true).getD d true=false)->S w)->pd P md ops Q S D fuel (listed.setIfInBounds i true) a w->K' a w)->if Region.wanted o (yielded ops a.tmps)=true then Oper.wp P o a w K' Q else K' (a.put o.dst undef) w)
  (hs:ep P md ops Q S D fuel listed a w rs):ep P md ops Q S D fuel listed a w (i :: rs):=fun j hj=>by
 rcases ie.1 hj with rfl| hj
 ·exact wpOp_step ho (fun K' hK=>h K' (fun a w hS hW=>hK a w ⟨hS,hW⟩))
 ·exact hs j hj
theorem cq{rs:List Nat}{fuel:Nat}{listed:Array Bool}{a:Act}{w:World}(hr:Region.ready md ops listed=rs)(hne:rs≠[])
  (h:ep P md ops Q S D fuel listed a w rs):pd P md ops Q S D (fuel+1) listed a w:=⟨fun h0=>absurd (hr▸h0) hne,hr▸h⟩
theorem yF{listed:Array Bool}{i d:Nat}(h:listed.getD d true=true):(listed.setIfInBounds i true).getD d true=true:=by
 by_cases hid:i=d
 ·subst hid;rcases fj i listed.size with h'| h'
  ·simp[h']
  ·simp[Array.getElem?_eq_none h',Array.setIfInBounds_eq_of_size_le h']
 ·rw[getD_set_ne true hid];exact h
theorem mc{d:Nat}(hd:d∈D):∀(fuel:Nat) (listed:Array Bool) (a:Act) (w:World),listed.getD d true=true->wpAny P md ops Q fuel listed a w->pd P md ops Q S D fuel listed a w
 | 0,_,_,_,_,h=>h
 | fuel+1,_,_,_,hl,h=>⟨h.1,fun i hi=>wpOp_mono (fun a' w' h'=>⟨fun hn=>absurd ((yF hl).symm.trans (hn d hd)) (by decide),mc hd fuel _ a' w' (yF hl) h'⟩) (h.2 i hi)⟩
theorem tK{fuel:Nat}{listed:Array Bool}{a:Act}{w:World}{i:Nat}{o:Oper}{rs:List Nat}(ho:ops[i]? =some o)
  (h:∀K':Act->World->Prop,Shut (∀a w,wpAny P md ops Q fuel (listed.setIfInBounds i true) a w->K' a w)->if Region.wanted o (yielded ops a.tmps)=true then Oper.wp P o a w K' Q else K' (a.put o.dst undef) w)
  (hs:AllReady P md ops Q fuel listed a w rs):AllReady P md ops Q fuel listed a w (i :: rs):=AllReady.cons ho h hs
theorem Up(i:Nat){fuel:Nat}{listed:Array Bool}{a:Act}{w:World}{o:Oper}(ho:ops[i]? =some o)
  (h:∀K':Act->World->Prop,Shut (∀a w,((∀d∈D,(listed.setIfInBounds i true).getD d true=false)->S w)->pd P md ops Q S D fuel (listed.setIfInBounds i true) a w->K' a w)->if Region.wanted o (yielded ops a.tmps)=true then Oper.wp P o a w K' Q else K' (a.put o.dst undef) w)
  (hr:Region.ready md ops listed=[i]:=by kernel_rfl):pd P md ops Q S D (fuel+1) listed a w:=cq hr (by simp) (ep.cons ho h ep.nil)
theorem Uq(i:Nat){fuel:Nat}{listed:Array Bool}{a:Act}{w:World}{o:Oper}(ho:ops[i]? =some o)
  (h:∀K':Act->World->Prop,Shut (∀a w,wpAny P md ops Q fuel (listed.setIfInBounds i true) a w->K' a w)->if Region.wanted o (yielded ops a.tmps)=true then Oper.wp P o a w K' Q else K' (a.put o.dst undef) w)
  (hr:Region.ready md ops listed=[i]:=by kernel_rfl):wpAny P md ops Q (fuel+1) listed a w:=Qt hr (by simp) (tK ho h Qr)
theorem je{id:Nat}{a:Act}{w:World}(S:World->Prop)(D:List Nat)(hm:P.follows .mixedOrders=true)
  (h:pd P .any ops Q S D ops.size (Array.replicate ops.size false) a w.drew):(Code.region id ops true).wp P Q a w:=
 wp_region_any hm (vO _ _ _ _ h)
end
end Go.Proofs.YtbdgkkmbnahgiaaGreatDoor
namespace Go.Proofs.YtbdgkkmbnahgiaaGreatDoor
open Go.RowKit Go.Proofs.Tryz
section
attribute [local go_sem ↓] bD bF bH bI bu
attribute [local go_sem] bc aD bh bg bK bJ bd aY be aO ax cI dC dB dt dj di dA dr dp dn bW co bO bZ bX cz cy cw cu ct cC cn bS bP bR
theorem G9(s:ByteArray):(qE s).size<=65537:=by
 unfold qE;split
 ·unfold cQ;rw[cK,GW,fM];omega
 ·exact ag _
theorem Vm(s:ByteArray)(w:World)(hs:s.size<=4611686018427387904):
  Calls prog 160 #[.string s] w fun e w'=>e= .returned (.tuple #[.string (qE s),.int .i64 (if s.size<=65535 then 0 else 2)])/\Below w.heap.size w w':=mN s w hs
theorem Uv(s:ByteArray)(w:World)(hs:s.size<=4611686018427387904):
  Calls prog 263 #[.string s] w fun e w'=>e= .returned (.string (qE s))/\Below w.heap.size w w':=by
 go_enter func263,ntmps263
 go_wp2_with fail
 refine(Vm s _ hs).mono ?_;rintro e w1 ⟨rfl,hb⟩;generalize (if s.size<=65535 then(0:Int)else 2)=E at*;go_wp2;go_ret;exact⟨rfl,hb⟩
theorem VK(w:World)(x0 x1 x2 x3 x4 x5:ByteArray)(t:TypeId):∀(j:Nat) x,[x0,x1,x2,x3,x4,x5][j]? =some x->(w.alloc (.cells #[.string x0,.string x1,.string x2,.string x3,.string x4,.string x5] t)).cell? ⟨w.heap.size,0+j,none⟩=some (.string x):=by
 intro j x h;rw[bV,(Bk.fresh w t #[.string x0,.string x1,.string x2,.string x3,.string x4,.string x5]).cell];rcases j with _| _| _| _| _| _| j
 ·simp at h;subst h;rfl
 ·simp at h;subst h;rfl
 ·simp at h;subst h;rfl
 ·simp at h;subst h;rfl
 ·simp at h;subst h;rfl
 ·simp at h;subst h;rfl
 ·simp at h
theorem VL(w:World)(x0 x1 x2 x3:ByteArray)(t:TypeId):∀(j:Nat) x,[x0,x1,x2,x3][j]? =some x->(w.alloc (.cells #[.string x0,.string x1,.string x2,.string x3] t)).cell? ⟨w.heap.size,0+j,none⟩=some (.string x):=by
 intro j x h;rw[bV,(Bk.fresh w t #[.string x0,.string x1,.string x2,.string x3]).cell];rcases j with _| _| _| _| j
 ·simp at h;subst h;rfl
 ·simp at h;subst h;rfl
 ·simp at h;subst h;rfl
 ·simp at h;subst h;rfl
 ·simp at h
theorem UA(w:World)(x0 x1:ByteArray)(t:TypeId):∀(j:Nat) x,[x0,x1][j]? =some x->(w.alloc (.cells #[.string x0,.string x1] t)).cell? ⟨w.heap.size,0+j,none⟩=some (.string x):=by
 intro j x h;rw[bV,(Bk.fresh w t #[.string x0,.string x1]).cell];rcases j with _| _| j
 ·simp at h;subst h;rfl
 ·simp at h;subst h;rfl
 ·simp at h
theorem Jr(v k:Int)(l:List Pr):(tW v k l).size<=131075004:=by
 unfold tW;split
 ·exact ag _
 ·rw[GW]
  by_cases h:(aM k l).2=0
  ·exact(G6 k l h).2
  ·rw[Ix k l h];exact ag _
theorem Ut:∀l:List ByteArray,(qK l).size=(l.map ByteArray.size).sum
 | []=>rfl
 | x :: l=>by rw[qK,cK,Ut l];rfl
theorem OO{v:Int}{p:Pk}(x:eR v p=0)(h2:p.kind≠2):p.kind=1/\(v=4\/v=5)/\(0<=p.alive/\p.alive<65536/\0<=p.will.qos/\p.will.qos<=2):=by
 obtain⟨g1,g2,g3,g4⟩:=nq x;have h1:p.kind=1:=(aR (show decide (p.kind=1\/p.kind=2)=true from g2)).resolve_right h2;refine⟨h1,aR (show decide (v=4\/v=5)=true from g1),?_⟩;unfold dU at g4;split at g4
 ·cases g4
 ·split at g4
  ·cases g4
  ·exact aR g4
theorem U5(v:Int)(p:Pk)(h:Hs)(w:World)(ip:PkIn w w.heap.size p h)(ok:PkOk p)(h2:p.kind≠2):
  Calls prog 193 #[.int .i64 v,pkV p h] w fun e w'=>e= .returned (.tuple #[.string (if eR v p=0 then(EY v p,(0:Int))else(⟨#[]⟩,eR v p)).1,.int .i64 (if eR v p=0 then(EY v p,(0:Int))else(⟨#[]⟩,eR v p)).2])/\Below w.heap.size w w':=by
 have OK:=aa ok;have S0:=aa ((St.start w).push ip);obtain⟨B,hB⟩:∃B,(if eR v p=0 then(EY v p,(0:Int))else(⟨#[]⟩,eR v p))=B:=⟨_,rfl⟩;rw[hB];have HE:=aa hB.symm;have l0:=S0.o.ld 0 rfl;have H2:=aa h2;clear ip ok h2 hB;go_enter func193,ntmps193
 go_wp2_with fail
 refine(nn v p h _ (S0.o.into 0 rfl) OK.o).mono ?_;rintro e w1 ⟨rfl,hb⟩;have S1:=aa (S0.o.below hb);clear hb l0
 by_cases he:eR v p=0
 rotate_left
 ·have e0:(eR v p !=0)=true:=aA.2 he;have HX:Hid (B=(⟨#[]⟩,eR v p)):=aa (by rw[HE.o,ae he]);clear he;go_wp2;go_ret2;exact⟨by rw[HX.o];rfl,S1.o.kept⟩
 have HX:Hid (B=(EY v p,0)):=aa (by rw[HE.o,if_pos he]);have HG:=aa (OO he H2.o);rw[he];have HFR:=aa (NA p);obtain⟨FQ,hFQ⟩:∃FQ,flQ p=FQ:=⟨_,rfl⟩;have HFQ:Hid (flN p=FQ):=aa (by rw[<-hFQ];exact(if_pos HG.o.1).symm);have HFC:Hid (∀x:World,Calls prog 262 #[pkV p h] x fun e w'=>e= .returned (.int .i64 FQ)/\Below x.heap.size x w'):=aa (fun x=>by rw[<-hFQ];exact UZ p h x);clear hFQ;have HR2:Hid (0<=FQ/\FQ<256):=aa (by rw[<-HFQ.o];exact HFR.o);obtain⟨vn,hvn,hw1⟩:∃m:Nat,Hid (v.toNat=m)/\IntKind.u64.wrap v=(m:Int):=⟨_,aa rfl,by rw[iZ];have:=HG.o.2.1;omega⟩;obtain⟨fn,hfn,hw2⟩:∃m:Nat,Hid (FQ.toNat=m)/\IntKind.u64.wrap FQ=(m:Int):=⟨_,aa rfl,by rw[iZ];have:=HR2.o;omega⟩;obtain⟨an,han,hw3⟩:∃m:Nat,Hid (p.alive.toNat=m)/\IntKind.u64.wrap p.alive=(m:Int):=⟨_,aa rfl,by rw[iZ];have:=HG.o.2.2;omega⟩;have HVN:Hid (vn<256):=aa (by have:=hvn.out;have:=HG.o.2.1;omega);have HFN:Hid (fn<256):=aa (by have:=hfn.out;have:=HR2.o;omega);have HAN:Hid (an<65536):=aa (by have:=han.out;have:=HG.o.2.2;omega);have k0:=(S1.o.cell 0 rfl 0).trans (cI _ _);have k24:=(S1.o.cell 0 rfl 24).trans (bR _ _);clear he
 go_wp2_with fail
 refine(UG v p.kind p.props _ rfl OK.o.props h.props.a h.props.c _ (S1.o.into 0 rfl).props OK.o.len.2.2.2).mono ?_;rintro e w2 ⟨rfl,hb⟩;have S2:=aa (S1.o.below hb);clear hb k0 k24
 have k0:=(S2.o.cell 0 rfl 0).trans (cI _ _);have e2:(p.kind==2)=false:=ar.2 H2.o;have HS1:Hid (yK v p=qK [i8,⟨(da v.toNat 1).toArray⟩,⟨(da (flN p).toNat 1).toArray⟩,⟨(da p.alive.toNat 2).toArray⟩,tW v p.kind p.props,qE p.client]):=aa rfl;rw[hvn.out,HFQ.o,hfn.out,han.out]at HS1;have HTS:=aa (Jr v p.kind p.props);have HCS:=aa (G9 p.client);obtain⟨T,hT⟩:∃T,tW v p.kind p.props=T:=⟨_,rfl⟩;rw[hT]at HS1 HTS⊢;obtain⟨X1,hX1⟩:∃X:ByteArray,(⟨(da vn 1).toArray⟩:ByteArray)=X:=⟨_,rfl⟩;obtain⟨X2,hX2⟩:∃X:ByteArray,(⟨(da fn 1).toArray⟩:ByteArray)=X:=⟨_,rfl⟩;obtain⟨X3,hX3⟩:∃X:ByteArray,(⟨(da an 2).toArray⟩:ByteArray)=X:=⟨_,rfl⟩;obtain⟨D1,hD1⟩:∃X:ByteArray,qE p.client=X:=⟨_,rfl⟩;rw[hX1,hX2,hX3,hD1]at HS1;rw[hD1]at HCS;have HSZ:Hid (X1.size=1/\X2.size=1/\X3.size=2):=aa ⟨by rw[<-hX1,GW,fM],by rw[<-hX2,GW,fM],by rw[<-hX3,GW,fM]⟩;have P1:=aa (fun x:World=>pD vn 1 x (by have:=HVN.o;omega) (by omega) (by omega));have P2:=aa (fun x:World=>pD fn 1 x (by have:=HFN.o;omega) (by omega) (by omega));have P3:=aa (fun x:World=>pD an 2 x (by have:=HAN.o;omega) (by omega) (by omega));have P4:=aa (fun x:World=>Uv p.client x (by have:=OK.o.texts;omega));rw[hX1]at P1;rw[hX2]at P2;rw[hX3]at P3;rw[hD1]at P4;clear hT hX1 hX2 hX3 hD1;have hN:(⟨#[0,4,77,81,84,84]⟩:ByteArray)=i8:=rfl;have HNS:Hid (i8.size=6):=aa rfl
 go_wp2_with fail
 rw[hN];clear hN;have J0:=aa S2.o.drew;have HS:=And.intro (J0.o.ld 0 rfl) (And.intro ((J0.o.cell 0 rfl 8).trans (dp _ _)) ((J0.o.cell 0 rfl 9).trans (dn _ _)));refine je (fun w'=>(kZ (.pointer (some ⟨w.heap.size,0,none⟩))).run prog w'= .ok (pkV p h) w'/\w'.cell? ⟨w.heap.size,8,none⟩=some (.int .i64 p.alive)/\w'.cell? ⟨w.heap.size,9,none⟩=some (.string p.client)) [15] (by kernel_rfl) ?_;refine Uo (i:=0) (v:=?v0) [1,2,15] rfl (Or.inl ⟨by rfl,?h0⟩) HS ?r0
 case h0=>intro w' hSw;(try dsimp only at hSw);go_simp;try with_reducible rfl
 refine Uo (i:=1) (v:=?v1) [2,15] rfl (Or.inl ⟨by rfl,?h1⟩) HS ?r1
 case h1=>intro w' hSw;(try dsimp only at hSw);go_simp;try with_reducible rfl
 refine Uo (i:=3) (v:=?v3) [4,5,6,15] rfl (Or.inl ⟨by rfl,?h3⟩) HS ?r3
 case h3=>intro w' hSw;(try dsimp only at hSw);go_simp;try with_reducible rfl
 refine Uo (i:=7) (v:=?v7) [8,9,10,15] rfl (Or.inl ⟨by rfl,?h7⟩) HS ?r7
 case h7=>intro w' hSw;(try dsimp only at hSw);go_simp;try with_reducible rfl
 refine Uo (i:=8) (v:=?v8) [9,10,15] rfl (Or.inl ⟨by rfl,?h8⟩) HS ?r8
 case h8=>intro w' hSw;(try dsimp only at hSw);go_simp;try with_reducible rfl
 refine Uo (i:=9) (v:=?v9) [10,15] rfl (Or.inl ⟨by rfl,?h9⟩) HS ?r9
 case h9=>intro w' hSw;(try dsimp only at hSw);go_simp;try with_reducible rfl
 refine Uo (i:=11) (v:=?v11) [15] rfl (Or.inl ⟨by rfl,?h11⟩) HS ?r11
 case h11=>intro w' hSw;(try dsimp only at hSw);go_simp;try with_reducible rfl
 refine Uo (i:=12) (v:=?v12) [13,14,15] rfl (Or.inl ⟨by rfl,?h12⟩) HS ?r12
 case h12=>intro w' hSw;(try dsimp only at hSw);go_simp;try with_reducible rfl
 refine Uo (i:=13) (v:=?v13) [14,15] rfl (Or.inl ⟨by rfl,?h13⟩) HS ?r13
 case h13=>intro w' hSw;(try dsimp only at hSw);go_simp;try with_reducible rfl
 refine Up 2 rfl (fun K hK=>?_);go_simp
 go_at_call 56
 refine(P1.o _).mono ?_;rintro e' z2 ⟨rfl,hb⟩;have J1:=aa (J0.o.below hb);clear hb HS
 have HS:=And.intro (J1.o.ld 0 rfl) (And.intro ((J1.o.cell 0 rfl 8).trans (dp _ _)) ((J1.o.cell 0 rfl 9).trans (dn _ _)));go_simp;refine hK.out _ _ (fun _=>HS) ?_;clear hK K;refine Up 4 rfl (fun K hK=>?_);go_simp
 go_at_call 262
 refine(HFC.o _).mono ?_;rintro e' z4 ⟨rfl,hb⟩;have J2:=aa (J1.o.below hb);clear hb HS
 have HS:=And.intro (J2.o.ld 0 rfl) (And.intro ((J2.o.cell 0 rfl 8).trans (dp _ _)) ((J2.o.cell 0 rfl 9).trans (dn _ _)));go_simp;refine hK.out _ _ (fun _=>HS) ?_;clear hK K;refine Uo (i:=5) (v:=?v5) [6,15] rfl (Or.inl ⟨by rfl,?h5⟩) HS ?r5
 case h5=>intro w' hSw;(try dsimp only at hSw);go_simp;try with_reducible rfl
 refine Up 6 rfl (fun K hK=>?_);go_simp
 go_at_call 56
 refine(P2.o _).mono ?_;rintro e' z6 ⟨rfl,hb⟩;have J3:=aa (J2.o.below hb);clear hb HS
 have HS:=And.intro (J3.o.ld 0 rfl) (And.intro ((J3.o.cell 0 rfl 8).trans (dp _ _)) ((J3.o.cell 0 rfl 9).trans (dn _ _)));go_simp;refine hK.out _ _ (fun _=>HS) ?_;clear hK K;refine Up 10 rfl (fun K hK=>?_);go_simp
 go_at_call 56
 refine(P3.o _).mono ?_;rintro e' z10 ⟨rfl,hb⟩;have J4:=aa (J3.o.below hb);clear hb HS
 have HS:=And.intro (J4.o.ld 0 rfl) (And.intro ((J4.o.cell 0 rfl 8).trans (dp _ _)) ((J4.o.cell 0 rfl 9).trans (dn _ _)));go_simp;refine hK.out _ _ (fun _=>HS) ?_;clear hK K;refine Up 14 rfl (fun K hK=>?_);go_simp
 go_at_call 263
 refine(P4.o _).mono ?_;rintro e' z14 ⟨rfl,hb⟩;have J5:=aa (J4.o.below hb);clear hb HS
 have HS:=And.intro (J5.o.ld 0 rfl) (And.intro ((J5.o.cell 0 rfl 8).trans (dp _ _)) ((J5.o.cell 0 rfl 9).trans (dn _ _)));go_simp;refine hK.out _ _ (fun _=>HS) ?_;clear hK K;refine Up 15 rfl (fun K hK=>?_);go_simp;refine hK.out _ _ (fun hn=>absurd (hn 15 (by simp)) (by decide)) (mc (d:=15) (by simp) _ _ _ _ (by kernel_rfl) ?_);clear hK K HS;have J6:=aa (J5.o.alloc (.cells #[.string i8,.string X1,.string X2,.string X3,.string T,.string D1] 9));refine Uq 16 rfl (fun K hK=>?_);go_simp
 go_at_call 261
 refine(Uu [i8,X1,X2,X3,T,D1] 6 6 z14.heap.size 0 rfl _ (VK z14 _ _ _ _ _ _ _) (by simp) (by omega) (by omega) (by rw[Ut];simp only[List.map,SK,Ur];have:=HNS.o;have:=HSZ.o;have:=HTS.o;have:=HCS.o;omega)).mono ?_;rintro e' z16 ⟨rfl,hb⟩;have S7:=aa (J6.o.below hb);clear hb
 go_simp;refine hK.out _ _ ?_;clear hK K;refine Uq 17 rfl (fun K hK=>?_);go_simp;refine hK.out _ _ ?_;clear hK K;refine QB (by kernel_rfl) ?_ _;rw[<-HS1.o];have HZ1:Hid ((yK v p).size<=131140700):=aa (by rw[HS1.o,Ut];simp only[List.map,SK,Ur];have:=HNS.o;have:=HSZ.o;have:=HTS.o;have:=HCS.o;omega);have HS2:Hid (yJ v p=if p.hasWill=true then qK [yK v p,tW v 16 p.will.props,qE p.will.topic,qE p.will.payload]else yK v p):=aa rfl;have HS3:Hid (yI v p=if p.hasUser=true then qK [yJ v p,qE p.user]else yJ v p):=aa rfl;have HS4:Hid (EY v p=if p.hasPass=true then qK [yI v p,qE p.pass]else yI v p):=aa rfl;obtain⟨O1,hO1⟩:∃O,yK v p=O:=⟨_,rfl⟩;rw[hO1]at HS1 HZ1 HS2⊢;clear hO1 HS1 HTS HCS HSZ HNS P1 P2 P3 P4 HFC hw1 hw2 hw3 k0 e2;have k14:=(S7.o.cell 0 rfl 14).trans (bX _ _);obtain⟨wb,hwb⟩:∃b,p.hasWill=b:=⟨_,rfl⟩;rw[hwb]at k14 HS2;clear hwb;cases wb
 ·rw[ae (by decide)]at HS2;rw[HS2.o]at HS3;have uk:=(S7.o.cell 0 rfl 10).trans (bW _ _);obtain⟨ub,hub⟩:∃b,p.hasUser=b:=⟨_,rfl⟩;rw[hub]at uk HS3;clear hub;cases ub
  ·rw[ae (by decide)]at HS3;rw[HS3.o]at HS4;have qk:=(S7.o.cell 0 rfl 12).trans (bO _ _);obtain⟨qb,hqb⟩:∃b,p.hasPass=b:=⟨_,rfl⟩;rw[hqb]at qk HS4;clear hqb;cases qb
   ·rw[ae (by decide)]at HS4;go_wp2;go_ret2;exact⟨by rw[HX.o,HS4.o];rfl,S7.o.kept⟩
   ·rw[if_pos rfl]at HS4;have qf:=(S7.o.cell 0 rfl 13).trans (bZ _ _)
    go_wp2_with fail
    refine(Uv p.pass _ (by have:=OK.o.texts;omega)).mono ?_;rintro e yq ⟨rfl,hb⟩;have S7a:=aa (S7.o.below hb);clear hb qk qf
    have qD:=aa (G9 p.pass);obtain⟨qX,hqX⟩:∃X,qE p.pass=X:=⟨_,rfl⟩;rw[hqX]at HS4 qD⊢;clear hqX;have S7b:=aa (S7a.o.alloc (.cells #[.string O1,.string qX] 9))
    go_wp2_with fail
    refine(Uu [O1,qX] 2 2 yq.heap.size 0 rfl _ (UA yq _ _ _) (by simp) (by omega) (by omega) (by rw[Ut];simp only[List.map,SK,Ur];have:=HZ1.o;have:=qD.out;omega)).mono ?_;rintro e zq ⟨rfl,hb⟩;have S7p:=aa (S7b.o.below hb);clear hb
    have HZp:Hid ((qK [O1,qX]).size<=131210700):=aa (by rw[Ut];simp only[List.map,SK,Ur];have:=HZ1.o;have:=qD.out;omega);obtain⟨Op1,hOp1⟩:∃O,qK [O1,qX]=O:=⟨_,rfl⟩;rw[hOp1]at HS4 HZp⊢;clear hOp1;go_wp2;go_ret2;exact⟨by rw[HX.o,HS4.o];rfl,S7p.o.kept⟩
  ·rw[if_pos rfl]at HS3;have uf:=(S7.o.cell 0 rfl 11).trans (co _ _)
   go_wp2_with fail
   refine(Uv p.user _ (by have:=OK.o.texts;omega)).mono ?_;rintro e yu ⟨rfl,hb⟩;have S7a:=aa (S7.o.below hb);clear hb uk uf
   have uD:=aa (G9 p.user);obtain⟨uX,huX⟩:∃X,qE p.user=X:=⟨_,rfl⟩;rw[huX]at HS3 uD⊢;clear huX;have S7b:=aa (S7a.o.alloc (.cells #[.string O1,.string uX] 9))
   go_wp2_with fail
   refine(Uu [O1,uX] 2 2 yu.heap.size 0 rfl _ (UA yu _ _ _) (by simp) (by omega) (by omega) (by rw[Ut];simp only[List.map,SK,Ur];have:=HZ1.o;have:=uD.out;omega)).mono ?_;rintro e zu ⟨rfl,hb⟩;have S7u:=aa (S7b.o.below hb);clear hb
   have HZu:Hid ((qK [O1,uX]).size<=131210700):=aa (by rw[Ut];simp only[List.map,SK,Ur];have:=HZ1.o;have:=uD.out;omega);obtain⟨Ou1,hOu1⟩:∃O,qK [O1,uX]=O:=⟨_,rfl⟩;rw[hOu1]at HS3 HZu⊢;clear hOu1;rw[HS3.o]at HS4;have qk:=(S7u.o.cell 0 rfl 12).trans (bO _ _);obtain⟨qb,hqb⟩:∃b,p.hasPass=b:=⟨_,rfl⟩;rw[hqb]at qk HS4;clear hqb;cases qb
   ·rw[ae (by decide)]at HS4;go_wp2;go_ret2;exact⟨by rw[HX.o,HS4.o];rfl,S7u.o.kept⟩
   ·rw[if_pos rfl]at HS4;have qf:=(S7u.o.cell 0 rfl 13).trans (bZ _ _)
    go_wp2_with fail
    refine(Uv p.pass _ (by have:=OK.o.texts;omega)).mono ?_;rintro e yq ⟨rfl,hb⟩;have S7ua:=aa (S7u.o.below hb);clear hb qk qf
    have qD:=aa (G9 p.pass);obtain⟨qX,hqX⟩:∃X,qE p.pass=X:=⟨_,rfl⟩;rw[hqX]at HS4 qD⊢;clear hqX;have S7ub:=aa (S7ua.o.alloc (.cells #[.string Ou1,.string qX] 9))
    go_wp2_with fail
    refine(Uu [Ou1,qX] 2 2 yq.heap.size 0 rfl _ (UA yq _ _ _) (by simp) (by omega) (by omega) (by rw[Ut];simp only[List.map,SK,Ur];have:=HZu.o;have:=qD.out;omega)).mono ?_;rintro e zq ⟨rfl,hb⟩;have S7up:=aa (S7ub.o.below hb);clear hb
    have HZp:Hid ((qK [Ou1,qX]).size<=131280700):=aa (by rw[Ut];simp only[List.map,SK,Ur];have:=HZu.o;have:=qD.out;omega);obtain⟨Opu1,hOpu1⟩:∃O,qK [Ou1,qX]=O:=⟨_,rfl⟩;rw[hOpu1]at HS4 HZp⊢;clear hOpu1;go_wp2;go_ret2;exact⟨by rw[HX.o,HS4.o];rfl,S7up.o.kept⟩
 ·rw[if_pos rfl]at HS2;have HWS:Hid ((tW v 16 p.will.props).size<=131075004/\(qE p.will.topic).size<=65537/\(qE p.will.payload).size<=65537):=aa ⟨Jr _ _ _,G9 _,G9 _⟩;have W1:=aa (fun(x:World) hr=>UG v 16 p.will.props _ rfl OK.o.wp h.wp.a h.wp.c x hr OK.o.len.1);have W2:=aa (fun x:World=>Uv p.will.topic x (by have:=OK.o.texts;omega));have W3:=aa (fun x:World=>Uv p.will.payload x (by have:=OK.o.texts;omega));obtain⟨WT,hWT⟩:∃X,tW v 16 p.will.props=X:=⟨_,rfl⟩;obtain⟨WA,hWA⟩:∃X,qE p.will.topic=X:=⟨_,rfl⟩;obtain⟨WB,hWB⟩:∃X,qE p.will.payload=X:=⟨_,rfl⟩;rw[hWT,hWA,hWB]at HS2 HWS;rw[hWT]at W1;rw[hWA]at W2;rw[hWB]at W3;clear hWT hWA hWB
  go_wp2_with fail
  have J7:=aa S7.o.drew;have HS:=And.intro ((J7.o.cell 0 rfl 19).trans (ct _ _)) (And.intro ((J7.o.cell 0 rfl 15).trans (cz _ _)) ((J7.o.cell 0 rfl 16).trans (cy _ _)));refine je (fun w'=>w'.cell? ⟨w.heap.size,19,none⟩=some (.slice h.wp.a p.will.props.length h.wp.c)/\w'.cell? ⟨w.heap.size,15,none⟩=some (.string p.will.topic)/\w'.cell? ⟨w.heap.size,16,none⟩=some (.string p.will.payload)) [14] (by kernel_rfl) ?_;refine Uo (i:=0) (v:=?x0) [14] rfl (Or.inl ⟨by rfl,?y0⟩) HS ?z0
  case y0=>intro w' hSw;(try dsimp only at hSw);go_simp;try with_reducible rfl
  refine Uo (i:=1) (v:=?x1) [5,14] rfl (Or.inl ⟨by rfl,?y1⟩) HS ?z1
  case y1=>intro w' hSw;(try dsimp only at hSw);go_simp;try with_reducible rfl
  refine Uo (i:=2) (v:=?x2) [3,4,5,14] rfl (Or.inl ⟨by rfl,?y2⟩) HS ?z2
  case y2=>intro w' hSw;(try dsimp only at hSw);go_simp;try with_reducible rfl
  refine Uo (i:=3) (v:=?x3) [4,5,14] rfl (Or.inl ⟨by rfl,?y3⟩) HS ?z3
  case y3=>intro w' hSw;(try dsimp only at hSw);go_simp;try with_reducible rfl
  refine Uo (i:=4) (v:=?x4) [5,14] rfl (Or.inl ⟨by rfl,?y4⟩) HS ?z4
  case y4=>intro w' hSw;(try dsimp only at hSw);go_simp;try with_reducible rfl
  refine Uo (i:=6) (v:=?x6) [7,8,9,14] rfl (Or.inl ⟨by rfl,?y6⟩) HS ?z6
  case y6=>intro w' hSw;(try dsimp only at hSw);go_simp;try with_reducible rfl
  refine Uo (i:=7) (v:=?x7) [8,9,14] rfl (Or.inl ⟨by rfl,?y7⟩) HS ?z7
  case y7=>intro w' hSw;(try dsimp only at hSw);go_simp;try with_reducible rfl
  refine Uo (i:=8) (v:=?x8) [9,14] rfl (Or.inl ⟨by rfl,?y8⟩) HS ?z8
  case y8=>intro w' hSw;(try dsimp only at hSw);go_simp;try with_reducible rfl
  refine Uo (i:=10) (v:=?x10) [11,12,13,14] rfl (Or.inl ⟨by rfl,?y10⟩) HS ?z10
  case y10=>intro w' hSw;(try dsimp only at hSw);go_simp;try with_reducible rfl
  refine Uo (i:=11) (v:=?x11) [12,13,14] rfl (Or.inl ⟨by rfl,?y11⟩) HS ?z11
  case y11=>intro w' hSw;(try dsimp only at hSw);go_simp;try with_reducible rfl
  refine Uo (i:=12) (v:=?x12) [13,14] rfl (Or.inl ⟨by rfl,?y12⟩) HS ?z12
  case y12=>intro w' hSw;(try dsimp only at hSw);go_simp;try with_reducible rfl
  refine Up 5 rfl (fun K hK=>?_);go_simp
  go_at_call 260
  refine(W1.o _ (J7.o.into 0 rfl).wp).mono ?_;rintro e' z5 ⟨rfl,hb⟩;have J8:=aa (J7.o.below hb);clear hb HS
  have HS:=And.intro ((J8.o.cell 0 rfl 19).trans (ct _ _)) (And.intro ((J8.o.cell 0 rfl 15).trans (cz _ _)) ((J8.o.cell 0 rfl 16).trans (cy _ _)));go_simp;refine hK.out _ _ (fun _=>HS) ?_;clear hK K;refine Up 9 rfl (fun K hK=>?_);go_simp
  go_at_call 263
  refine(W2.o _).mono ?_;rintro e' z9 ⟨rfl,hb⟩;have J9:=aa (J8.o.below hb);clear hb HS
  have HS:=And.intro ((J9.o.cell 0 rfl 19).trans (ct _ _)) (And.intro ((J9.o.cell 0 rfl 15).trans (cz _ _)) ((J9.o.cell 0 rfl 16).trans (cy _ _)));go_simp;refine hK.out _ _ (fun _=>HS) ?_;clear hK K;refine Up 13 rfl (fun K hK=>?_);go_simp
  go_at_call 263
  refine(W3.o _).mono ?_;rintro e' z13 ⟨rfl,hb⟩;have JA:=aa (J9.o.below hb);clear hb HS
  have HS:=And.intro ((JA.o.cell 0 rfl 19).trans (ct _ _)) (And.intro ((JA.o.cell 0 rfl 15).trans (cz _ _)) ((JA.o.cell 0 rfl 16).trans (cy _ _)));go_simp;refine hK.out _ _ (fun _=>HS) ?_;clear hK K;refine Up 14 rfl (fun K hK=>?_);go_simp;refine hK.out _ _ (fun hn=>absurd (hn 14 (by simp)) (by decide)) (mc (d:=14) (by simp) _ _ _ _ (by kernel_rfl) ?_);clear hK K HS;have JB:=aa (JA.o.alloc (.cells #[.string O1,.string WT,.string WA,.string WB] 9));refine Uq 15 rfl (fun K hK=>?_);go_simp
  go_at_call 261
  refine(Uu [O1,WT,WA,WB] 4 4 z13.heap.size 0 rfl _ (VL z13 _ _ _ _ _) (by simp) (by omega) (by omega) (by rw[Ut];simp only[List.map,SK,Ur];have:=HZ1.o;have:=HWS.o;omega)).mono ?_;rintro e' z15 ⟨rfl,hb⟩;have S8:=aa (JB.o.below hb);clear hb
  go_simp;refine hK.out _ _ ?_;clear hK K;refine Uq 16 rfl (fun K hK=>?_);go_simp;refine hK.out _ _ ?_;clear hK K;refine QB (by kernel_rfl) ?_ _;have HZ2:Hid ((qK [O1,WT,WA,WB]).size<=262346900):=aa (by rw[Ut];simp only[List.map,SK,Ur];have:=HZ1.o;have:=HWS.o;omega);obtain⟨O2,hO2⟩:∃O,qK [O1,WT,WA,WB]=O:=⟨_,rfl⟩;rw[hO2]at HS2 HZ2⊢;clear hO2 W1 W2 W3;rw[HS2.o]at HS3;have uk:=(S8.o.cell 0 rfl 10).trans (bW _ _);obtain⟨ub,hub⟩:∃b,p.hasUser=b:=⟨_,rfl⟩;rw[hub]at uk HS3;clear hub;cases ub
  ·rw[ae (by decide)]at HS3;rw[HS3.o]at HS4;have qk:=(S8.o.cell 0 rfl 12).trans (bO _ _);obtain⟨qb,hqb⟩:∃b,p.hasPass=b:=⟨_,rfl⟩;rw[hqb]at qk HS4;clear hqb;cases qb
   ·rw[ae (by decide)]at HS4;go_wp2;go_ret2;exact⟨by rw[HX.o,HS4.o];rfl,S8.o.kept⟩
   ·rw[if_pos rfl]at HS4;have qf:=(S8.o.cell 0 rfl 13).trans (bZ _ _)
    go_wp2_with fail
    refine(Uv p.pass _ (by have:=OK.o.texts;omega)).mono ?_;rintro e yq ⟨rfl,hb⟩;have S8a:=aa (S8.o.below hb);clear hb qk qf
    have qD:=aa (G9 p.pass);obtain⟨qX,hqX⟩:∃X,qE p.pass=X:=⟨_,rfl⟩;rw[hqX]at HS4 qD⊢;clear hqX;have S8b:=aa (S8a.o.alloc (.cells #[.string O2,.string qX] 9))
    go_wp2_with fail
    refine(Uu [O2,qX] 2 2 yq.heap.size 0 rfl _ (UA yq _ _ _) (by simp) (by omega) (by omega) (by rw[Ut];simp only[List.map,SK,Ur];have:=HZ2.o;have:=qD.out;omega)).mono ?_;rintro e zq ⟨rfl,hb⟩;have S8p:=aa (S8b.o.below hb);clear hb
    have HZp:Hid ((qK [O2,qX]).size<=262416900):=aa (by rw[Ut];simp only[List.map,SK,Ur];have:=HZ2.o;have:=qD.out;omega);obtain⟨Op2,hOp2⟩:∃O,qK [O2,qX]=O:=⟨_,rfl⟩;rw[hOp2]at HS4 HZp⊢;clear hOp2;go_wp2;go_ret2;exact⟨by rw[HX.o,HS4.o];rfl,S8p.o.kept⟩
  ·rw[if_pos rfl]at HS3;have uf:=(S8.o.cell 0 rfl 11).trans (co _ _)
   go_wp2_with fail
   refine(Uv p.user _ (by have:=OK.o.texts;omega)).mono ?_;rintro e yu ⟨rfl,hb⟩;have S8a:=aa (S8.o.below hb);clear hb uk uf
   have uD:=aa (G9 p.user);obtain⟨uX,huX⟩:∃X,qE p.user=X:=⟨_,rfl⟩;rw[huX]at HS3 uD⊢;clear huX;have S8b:=aa (S8a.o.alloc (.cells #[.string O2,.string uX] 9))
   go_wp2_with fail
   refine(Uu [O2,uX] 2 2 yu.heap.size 0 rfl _ (UA yu _ _ _) (by simp) (by omega) (by omega) (by rw[Ut];simp only[List.map,SK,Ur];have:=HZ2.o;have:=uD.out;omega)).mono ?_;rintro e zu ⟨rfl,hb⟩;have S8u:=aa (S8b.o.below hb);clear hb
   have HZu:Hid ((qK [O2,uX]).size<=262416900):=aa (by rw[Ut];simp only[List.map,SK,Ur];have:=HZ2.o;have:=uD.out;omega);obtain⟨Ou2,hOu2⟩:∃O,qK [O2,uX]=O:=⟨_,rfl⟩;rw[hOu2]at HS3 HZu⊢;clear hOu2;rw[HS3.o]at HS4;have qk:=(S8u.o.cell 0 rfl 12).trans (bO _ _);obtain⟨qb,hqb⟩:∃b,p.hasPass=b:=⟨_,rfl⟩;rw[hqb]at qk HS4;clear hqb;cases qb
   ·rw[ae (by decide)]at HS4;go_wp2;go_ret2;exact⟨by rw[HX.o,HS4.o];rfl,S8u.o.kept⟩
   ·rw[if_pos rfl]at HS4;have qf:=(S8u.o.cell 0 rfl 13).trans (bZ _ _)
    go_wp2_with fail
    refine(Uv p.pass _ (by have:=OK.o.texts;omega)).mono ?_;rintro e yq ⟨rfl,hb⟩;have S8ua:=aa (S8u.o.below hb);clear hb qk qf
    have qD:=aa (G9 p.pass);obtain⟨qX,hqX⟩:∃X,qE p.pass=X:=⟨_,rfl⟩;rw[hqX]at HS4 qD⊢;clear hqX;have S8ub:=aa (S8ua.o.alloc (.cells #[.string Ou2,.string qX] 9))
    go_wp2_with fail
    refine(Uu [Ou2,qX] 2 2 yq.heap.size 0 rfl _ (UA yq _ _ _) (by simp) (by omega) (by omega) (by rw[Ut];simp only[List.map,SK,Ur];have:=HZu.o;have:=qD.out;omega)).mono ?_;rintro e zq ⟨rfl,hb⟩;have S8up:=aa (S8ub.o.below hb);clear hb
    have HZp:Hid ((qK [Ou2,qX]).size<=262486900):=aa (by rw[Ut];simp only[List.map,SK,Ur];have:=HZu.o;have:=qD.out;omega);obtain⟨Opu2,hOpu2⟩:∃O,qK [Ou2,qX]=O:=⟨_,rfl⟩;rw[hOpu2]at HS4 HZp⊢;clear hOpu2;go_wp2;go_ret2;exact⟨by rw[HX.o,HS4.o];rfl,S8up.o.kept⟩
theorem Vl(v:Int)(p:Pk)(h:Hs)(w:World)(ip:PkIn w w.heap.size p h)(ok:PkOk p):
  Calls prog 193 #[.int .i64 v,pkV p h] w fun e w'=>e= .returned (.tuple #[.string (Dm v p).1,.int .i64 (Dm v p).2])/\Below w.heap.size w w':=by
 by_cases h2:p.kind=2
 ·have hB:Dm v p=Fg v p:=if_pos h2;rw[hB];exact U4 v p h w ip ok h2
 ·have hB:Dm v p=if eR v p=0 then(EY v p,0)else(⟨#[]⟩,eR v p):=ae h2;rw[hB];exact U5 v p h w ip ok h2
theorem VJ{v:Int}{p:Pk}(x:eR v p≠0):Dm v p=(⟨#[]⟩,eR v p):=by
 unfold Dm Fg;rw[ae x,ae x];split<;>rfl
theorem SR.of{gp:Nat}{v:Value}{W y:World}(hk:W.cell? ⟨gp,0,none⟩=some v)(hb:Below W.heap.size W y):SR gp v W y:=⟨(hb.cell (p:=⟨gp,0,none⟩) (eY _ _ hk)).trans hk,hb⟩
def qH(k:Int):Bool:=decide (12<=k/\k<=15)
def fO(v k:Int):Bool:=decide ((k=14\/k=15)/\v=5)
def jR(v k:Int):Int:=if qH k=false\/¬(v=4\/v=5)then 2 else if k=15/\v=4 then 8 else 0
def conQ(v:Int)(p:Pk):Pk:=if fO v p.kind=true then aP p.kind 0 p.code p.props else aP p.kind 0 0 []
def fH(v:Int)(p:Pk):Int:=
 if jR v p.kind≠0 then jR v p.kind
 else if fO v p.kind=true/\may p.kind p.code=false then 2
 else if p≠conQ v p then 2
 else(aM p.kind p.props).2
def xV(code:Int)(l:List Pr)(k:Int):List UInt8:=if code<0\/255<code\/(aM k l).2≠0 then []else oG k code l
def FY(v:Int)(p:Pk):List UInt8×Int:=if fH v p=0 then(xV p.code p.props p.kind,0)else([],fH v p)
def pK(k:Int)(s:ByteArray):Int:=if(dg k s 0).2.2.2≠0 then(dg k s 0).2.2.2 else if(dg k s 0).2.2.1<s.size then 5 else 0
def iO(k:Int)(s:ByteArray):Int×List Pr×Int:=if pK k s≠0 then(0,[],pK k s)else((dg k s 0).1,(dg k s 0).2.1,0)
def fA(v k:Int)(s:ByteArray):Int×List Pr×Int:=if fO v k=true then iO k s else(0,[],if s.size≠0 then 5 else 0)
def fN(v k:Int)(s:ByteArray):Pk:=aP k 0 (fA v k s).1 (fA v k s).2.1
def gX(v k:Int)(s:ByteArray):Pk×Int:=
 if jR v k≠0 then(pk0,jR v k)
 else if(fA v k s).2.2≠0 then(pk0,(fA v k s).2.2)
 else if fH v (fN v k s)≠0 then(pk0,fH v (fN v k s))
 else(fN v k s,0)
structure ConGood (v:Int) (p:Pk):Prop where
 k:jR v p.kind=0
 may:fO v p.kind=true->may p.kind p.code=true
 old:fO v p.kind=false->p.code=0/\p.props=[]
 same:p=conQ v p
 c1:0<=p.code
 c2:p.code<256
 bytes:(aM p.kind p.props).2=0
theorem Ap{v:Int}{p:Pk}(x:fH v p=0):ConGood v p:=by
 unfold fH at x;split at x
 ·next h=>exact absurd x h
 ·next hk=>
  split at x
  ·cases x
  ·next hm=>
   split at x
   ·cases x
   ·next hs=>
    have hs':=aU.1 hs;have hq:fO v p.kind=false->p.code=0/\p.props=[]:=fun hf=>by
     have hq:conQ v p=aP p.kind 0 0 []:=by unfold conQ;rw[ae (by rw[hf];decide)]
     rw[hq]at hs';exact⟨congrArg Pk.code hs',congrArg Pk.props hs'⟩
    have hmay:fO v p.kind=true->Go.Proofs.YtbdgkkmbnahgiaaGreatDoor.may p.kind p.code=true:=fun ht=>by
     cases e:Go.Proofs.YtbdgkkmbnahgiaaGreatDoor.may p.kind p.code
     ·exact absurd ⟨ht,e⟩ hm
     ·rfl
    have hc:0<=p.code/\p.code<256:=by
     cases e:fO v p.kind
     ·have:=(hq e).1;omega
     ·exact n6 (hmay e)
    exact⟨aU.1 hk,hmay,hq,hs',hc.1,hc.2,x⟩
theorem ConGood.ok{v:Int}{p:Pk}(x:ConGood v p):fH v p=0:=by
 unfold fH;rw[ae (fun h=>h x.k),ae,ae (fun h=>h x.same)]
 ·exact x.bytes
 ·rintro ⟨h1,h2⟩;rw[x.may h1]at h2;cases h2
theorem ConGood.tail{v:Int}{p:Pk}(x:ConGood v p):xV p.code p.props p.kind=oG p.kind p.code p.props:=by
 unfold xV;rw[ae];rintro (h| h| h)
 ·have:=x.c1;omega
 ·have:=x.c2;omega
 ·exact h x.bytes
theorem Mz{v:Int}{p:Pk}(g:ConGood v p)(hn:∀q∈p.props,q.n<4294967296){s:ByteArray}(hs:ls s=xV p.code p.props p.kind):gX v p.kind s=(p,0):=by
 rw[g.tail]at hs;have ht:fA v p.kind s=(p.code,p.props,0):=by
  unfold fA;cases e:fO v p.kind
  ·rw[ae (by decide)];obtain⟨e1,e2⟩:=g.old e;have hz:oG p.kind p.code p.props=[]:=by unfold oG;rw[if_pos ⟨e1,by rw[e2];rfl⟩]
   rw[hz]at hs;have:=congrArg List.length hs;rw[aN]at this;rw[e1,e2,ae (fun x=>x this)]
  ·rw[if_pos rfl];have hr:=JU (t:=s) (a:=0) (by rw[cS];exact hs) (by omega) g.c1 g.c2 g.bytes hn;have he:pK p.kind s=0:=by
    unfold pK;rw[hr];simp
   unfold iO;rw[he,ae (by decide),hr]
 have hp:fN v p.kind s=p:=by
  unfold fN;rw[ht];have:=g.same;unfold conQ at this;cases e:fO v p.kind
  ·obtain⟨e1,e2⟩:=g.old e;rw[ae (by rw[e];decide)]at this;rw[e1,e2];exact this.symm
  ·rw[if_pos e]at this;exact this.symm
 unfold gX;rw[g.k,ae (by decide),ht,ae (fun x=>x rfl),hp,g.ok,ae (by decide)]
theorem we{v k:Int}{s:ByteArray}(h:(fA v k s).2.2=0):oG k (fA v k s).1 (fA v k s).2.1=ls s:=by
 unfold fA at h⊢;cases e:fO v k
 ·rw[e,ae (by decide)]at h;rw[ae (by decide)];have hz:s.size=0:=aU.1 fun x=>by simp only at h;rw[if_pos x]at h;cases h
  have:ls s=[]:=aF (by rw[aN];exact hz);rw[this];rfl
 ·rw[e,if_pos rfl]at h;rw[if_pos rfl];unfold iO at h⊢;have he:pK k s=0:=aU.1 fun x=>by rw[if_pos x]at h;exact x h
  rw[ae (fun x=>x he)];unfold pK at he;have h1:(dg k s 0).2.2.2=0:=aU.1 fun x=>by rw[if_pos x]at he;exact x he
  rw[ae (fun x=>x h1)]at he;have h2:¬(dg k s 0).2.2.1<s.size:=fun x=>by rw[if_pos x]at he;cases he
  have:=(rM (k:=k) (t:=s) (a:=0) (by omega) h1 (by omega)).1;rw[cS]at this;exact this.symm
theorem An(v k:Int)(s:ByteArray):(gX v k s=(pk0,(gX v k s).2)/\(gX v k s).2≠0)\/
  ((gX v k s).2=0/\ConGood v (gX v k s).1/\(gX v k s).1.kind=k/\xV (gX v k s).1.code (gX v k s).1.props (gX v k s).1.kind=ls s):=by
 unfold gX
 by_cases h1:jR v k≠0
 ·rw[if_pos h1];exact .inl ⟨rfl,h1⟩
 rw[ae h1]
 by_cases h2:(fA v k s).2.2≠0
 ·rw[if_pos h2];exact .inl ⟨rfl,h2⟩
 rw[ae h2]
 by_cases h3:fH v (fN v k s)≠0
 ·rw[if_pos h3];exact .inl ⟨rfl,h3⟩
 rw[ae h3];have g:=Ap (aU.1 h3);refine .inr ⟨rfl,g,rfl,?_⟩;simp only;rw[g.tail];exact we (aU.1 h2)
theorem mA{v k:Int}{s:ByteArray}(hs:s.size<=140737488351232):(∀p∈(fA v k s).2.1,ea p)/\(fA v k s).2.1.length<=1000:=by
 unfold fA;split
 ·unfold iO;split
  ·exact⟨by simp,ag _⟩
  ·exact⟨nN hs,nM k s 0⟩
 ·exact⟨by simp,ag _⟩
end
end Go.Proofs.YtbdgkkmbnahgiaaGreatDoor
namespace Go.Proofs.YtbdgkkmbnahgiaaGreatDoor
open Go.RowKit Go.Shelf
open Go.Proofs.Tryz
def lvs(s:ByteArray):List ByteArray:=Lib.splitB ⟨#[47]⟩ 0 (Lib.countB s ⟨#[47]⟩) s
theorem lW(l:List UInt8)(c:UInt8)(j:Nat):Lib.occAt l [c] j=(l[j]? ==some c):=by
 unfold Lib.occAt;rw[<-List.head?_drop];cases l.drop j with
 | nil=>rfl
 | cons b t=>
   rw[eG];simp[List.isPrefixOf];exact eq_comm
theorem Aa{l:List UInt8}{c:UInt8}{i:Nat}(h:l[i]? =some c)(hn:∀j,j<i->l[j]? ≠some c):Lib.index l [c]=i:=by
 refine Lib.index_first ?_ ?_ ?_
 ·have:=(cR.1 h).1;omega
 ·rw[lW,h];simp
 ·intro j hj;rw[lW];simpa using hn j hj
theorem xc{l:List UInt8}{c:UInt8}(hn:∀j:Nat,l[j]? ≠some c):Lib.index l [c]= -1:=
 Lib.index_none fun j _=>by rw[lW];simpa using hn j
theorem Cm{s:ByteArray}(h:∀j:Nat,(ls s)[j]? ≠some 47):lvs s=[s]:=Lib.splitB_miss _ _ _ _ (xc h)
theorem Er{s:ByteArray}{i:Nat}(h:(ls s)[i]? =some 47)(hn:∀j:Nat,j<i->(ls s)[j]? ≠some 47):lvs s=s.extract 0 i :: lvs (s.extract (i+1) s.size):=by
 have hi:Lib.indexB s ⟨#[47]⟩=i:=Aa h hn;have hc:=Lib.countB_hit s ⟨#[47]⟩ i (by decide) hi;unfold lvs;rw[hc,Nat.add_comm 1,Lib.splitB_hit _ _ _ _ i hi];rfl
theorem n7(s:ByteArray):(lvs s).length=Lib.countB s ⟨#[47]⟩+1:=Lib.splitB_all _ (by decide) 0 _ s rfl
theorem Eo(s:ByteArray):(lvs s).length<=s.size+1:=by
 have:=Lib.countB_le ⟨#[47]⟩ (by decide) s.size s (ac _);rw[n7];omega
theorem xk(s:ByteArray):(∀j:Nat,(ls s)[j]? ≠some 47)\/∃i,i<s.size/\(ls s)[i]? =some 47/\∀j:Nat,j<i->(ls s)[j]? ≠some 47:=by
 rcases Lib.index_spec (ls s) [47]with ⟨-,h⟩ | ⟨i,-,-,h,hn⟩
 ·left
  intro j hj;have hl:=(cR.1 hj).1;have:=h j (by omega);rw[lW,hj]at this;simp at this
 ·right
  rw[lW]at h;have h':(ls s)[i]? =some 47:=by simpa using h
  have hl:=(cR.1 h').1;refine⟨i,by rw[aN]at hl;exact hl,h',fun j hj he=>?_⟩;have:=hn j hj;rw[lW,he]at this;simp at this
theorem Ep{C:ByteArray->Prop}(h1:∀s,(∀j:Nat,(ls s)[j]? ≠some 47)->C s)
  (h2:∀s i,i<s.size->(ls s)[i]? =some 47->(∀j:Nat,j<i->(ls s)[j]? ≠some 47)->C (s.extract (i+1) s.size)->C s)(s:ByteArray):C s:=by
 suffices h:∀n (t:ByteArray),t.size<=n->C t from h s.size s (ac _)
 intro n
 induction n with
 | zero=>
   intro t ht;refine h1 t fun j hj=>?_;have:=(cR.1 hj).1;rw[aN]at this;omega
 | succ n ih=>
   intro t ht;rcases xk t with h| ⟨i,hi,h,hn⟩
   ·exact h1 t h
   ·exact h2 t i hi h hn (ih _ (by rw[aj];omega))
theorem Cl(s:ByteArray):∀x∈lvs s,x.size<=s.size:=by
 induction s using Ep with
 | h1 s h=>rw[Cm h];intro x hx;simp at hx;rw[hx];exact ac _
 | h2 s i hi h hn ih=>
   rw[Er h hn];intro x hx;rcases ie.1 hx with rfl| hx
   ·rw[aj];omega
   ·have:=ih x hx;rw[aj]at this;omega
theorem P8(s:ByteArray):lvs s≠[]:=fun h=>by have:=n7 s;rw[h]at this;simp at this
def mi(x:ByteArray):Bool:=(x.toList==[43]) || (x.toList==[35])
def j8(x:ByteArray)(last:Bool):Bool:=!(((x.toList==[35])&& !last) || (!mi x&&mg x))
def jk(l:List ByteArray):Bool:=(List.range l.length).all fun i=>j8 (l.getD i ⟨#[]⟩) (decide (i+1=l.length))
def gj(s:ByteArray):Bool:=jY s&&jk (lvs s)
theorem Ct{l:List ByteArray}(h:∀i x,l[i]? =some x->j8 x (decide (i+1=l.length))=true):jk l=true:=by
 unfold jk;rw[dL];intro i hi;have hi:=gn.1 hi;rw[List.getD_eq_getElem?_getD,List.getElem?_eq_getElem hi];exact h i _ (List.getElem?_eq_getElem hi)
theorem yA{l:List ByteArray}{i:Nat}{x:ByteArray}(hx:l[i]? =some x)(h:j8 x (decide (i+1=l.length))=false):jk l=false:=by
 unfold jk;rw[List.all_eq_false];have hi:=(cR.1 hx).1;refine⟨i,gn.2 hi,?_⟩;rw[List.getD_eq_getElem?_getD,hx];simp[h]
def Ju(x:ByteArray)(last:Bool):Bool:=!((Hh (ls x) 43&& !(x.toList==[43])) || (Hh (ls x) 35&&(!(x.toList==[35]) || !last)))
theorem Gc(x:ByteArray):x.toList=ls x:=Lib.toList_data x
theorem KV(x:ByteArray)(last:Bool):Ju x last=j8 x last:=by
 unfold Ju j8 mi;rw[Ky,Gc];generalize ls x=l
 by_cases h1:l=[43]
 ·subst h1;cases last<;>rfl
 ·by_cases h2:l=[35]
  ·subst h2;cases last<;>rfl
  ·rw[ar.2 h1,ar.2 h2];cases Hh l 43<;>cases Hh l 35<;>rfl
def jt:List ByteArray->List UInt8
 | []=>[]
 | x :: l=>47 :: (ls x++jt l)
def jn:List ByteArray->List UInt8
 | []=>[]
 | x :: l=>ls x++jt l
theorem Ou:∀l m,jt (l++m)=jt l++jt m
 | [],_=>rfl
 | x :: l,m=>by rw[IJ,jt,jt,Ou l m];simp
theorem PF(l:List ByteArray)(x:ByteArray):jn (l++[x])=if l=[]then ls x else jn l++47 :: ls x:=by
 cases l with
 | nil=>simp[jn,jt]
 | cons y l=>rw[ae (by simp),IJ,jn,jn,Ou];simp[jt]
theorem On{s:ByteArray}{i:Nat}(h:(ls s)[i]? =some 47):ls s=ls (s.extract 0 i)++47 :: ls (s.extract (i+1) s.size):=by
 have e1:ls (s.extract 0 i)=(ls s).take i:=by
  show(s.extract 0 i).data.toList=_;rw[Lib.extract_from_zero];rfl
 have e2:ls (s.extract (i+1) s.size)=(ls s).drop (i+1):=by
  show(s.extract (i+1) s.size).data.toList=_;rw[Lib.extract_to_end];rfl
 obtain⟨hi,he⟩:=cR.1 h;rw[e1,e2,<-he,<-bQ hi,cg]
theorem Ov(s:ByteArray):jn (lvs s)=ls s:=by
 induction s using Ep with
 | h1 s h=>rw[Cm h];simp[jn,jt]
 | h2 s i hi h hn ih=>
   rw[Er h hn,On h];generalize hg:lvs (s.extract (i+1) s.size)=L at*;cases L with
   | nil=>exact absurd hg (P8 _)
   | cons y l=>rw[jn,jt];rw[jn]at ih;rw[ih]
end Go.Proofs.YtbdgkkmbnahgiaaGreatDoor
namespace Go.Proofs.YtbdgkkmbnahgiaaGreatDoor
open Go.RowKit Go.Shelf
open Go.Proofs.Tryz
theorem Lc(s:ByteArray)(p:Nat):s.get! p=((ls s)[p]?).getD 0:=by
 by_cases h:p<s.size
 ·rw[List.getElem?_eq_getElem (by rw[aN];exact h),Cz s p h];rfl
 ·rw[aG (by rw[aN];omega)];have h':¬p<s.data.size:=h;show s.data[p]! =_;show s.data[p]! =0;rw[Array.getElem!_eq_getD,Jf,Array.getElem?_eq_none (by omega)];rfl
theorem ix(s:ByteArray)(i:Nat):ls (s.extract 0 i)=(ls s).take i:=by
 show(s.extract 0 i).data.toList=_;rw[Lib.extract_from_zero];rfl
theorem m9(s:ByteArray)(a:Nat):ls (s.extract a s.size)=(ls s).drop a:=by
 show(s.extract a s.size).data.toList=_;rw[Lib.extract_to_end];rfl
theorem II(s:ByteArray)(a p:Nat):(s.extract a s.size).get! p=s.get! (a+p):=by
 rw[Lc,Lc,m9,List.getElem?_drop]
theorem Jj(s:ByteArray){i p:Nat}(h:p<i):(s.extract 0 i).get! p=s.get! p:=by
 rw[Lc,Lc,ix,List.getElem?_take,if_pos h]
theorem OG(s:ByteArray)(a p:Nat):Utf8.decode (s.extract a s.size) p=Utf8.decode s (a+p):=by
 rw[Lib.decode_at,Lib.decode_at,II,II,II,II,aj,show min s.size s.size- a- p=s.size- (a+p) by omega];rfl
theorem rJ(s:ByteArray)(a:Nat):(s.extract a s.size).size=s.size- a:=by rw[aj];omega
theorem Js(s:ByteArray){i:Nat}(h:i<=s.size):(s.extract 0 i).size=i:=by rw[aj];omega
theorem Lk(s:ByteArray):∀f f' pos,s.size<=pos+f->s.size<=pos+f'->xD f s pos=xD f' s pos
 | 0,0,_,_,_=>rfl
 | 0,f'+1,pos,h,_=>by rw[xD,xD,ae (by omega)]
 | f+1,0,pos,_,h=>by rw[xD,xD,ae (by omega)]
 | f+1,f'+1,pos,h,h'=>by
   rw[xD,xD]
   by_cases hp:pos<s.size
   ·rw[if_pos hp,if_pos hp];have hw:=Lib.decode_width_pos s pos hp;rw[Lk s f f' _ (by omega) (by omega)]
   ·rw[ae hp,ae hp]
theorem Ll(s:ByteArray)(a:Nat):∀f p,(xD f (s.extract a s.size) p= -1↔xD f s (a+p)= -1)
 | 0,_=>Iff.rfl
 | f+1,p=>by
   rw[xD,xD,rJ,OG]
   by_cases hp:a+p<s.size
   ·rw[if_pos (by omega),if_pos hp]
    by_cases hb:(Utf8.decode s (a+p)).1=0\/((Utf8.decode s (a+p)).1=65533/\(Utf8.decode s (a+p)).2=1)
    ·rw[if_pos hb,if_pos hb];omega
    ·rw[ae hb,ae hb,Ll s a f,Nat.add_assoc]
   ·rw[ae (by omega),ae hp]
theorem JT(s:ByteArray){pos i:Nat}(hlt:pos<i)(h:(s.get! i).toNat<128):pos+(Utf8.decode s pos).2<=i:=by
 rcases tw s pos with ⟨e,-⟩ | ⟨-,-,hj⟩
 ·rw[e];exact hlt
 ·by_cases hc:pos+(Utf8.decode s pos).2<=i
  ·exact hc
  ·have:=hj (i- pos) (by omega);rw[show pos+(i- pos)=i by omega]at this;omega
theorem Lj(s:ByteArray)(i:Nat)(hi:i<s.size)(h:(s.get! i).toNat<128):∀f pos,s.size<=pos+f->pos<=i->xD f s pos= -1->∃f',s.size<=i+f'/\xD f' s i= -1
 | 0,pos,hf,hp,_=>by omega
 | f+1,pos,hf,hp,hb=>by
   by_cases he:pos=i
   ·subst he;exact⟨f+1,hf,hb⟩
   ·have hw:=Lib.decode_width_pos s pos (by omega);have hs:=JT s (pos:=pos) (by omega) h;rw[xD,if_pos (by omega)]at hb;split at hb
    ·omega
    ·exact Lj s i hi h f _ (by omega) hs hb
theorem OE{n n' b0 b1 b2 b3 c1 c2 c3:Nat}(hb:Lib.decodeN n b0 b1 b2 b3≠(65533,1))(hw:(Lib.decodeN n b0 b1 b2 b3).2<=n')
  (h1:1<(Lib.decodeN n b0 b1 b2 b3).2->c1=b1)(h2:2<(Lib.decodeN n b0 b1 b2 b3).2->c2=b2)(h3:3<(Lib.decodeN n b0 b1 b2 b3).2->c3=b3):
  Lib.decodeN n' b0 c1 c2 c3=Lib.decodeN n b0 b1 b2 b3:=by
 rcases Lib.decodeN_shape n b0 b1 b2 b3 with ⟨e1,e⟩ | ⟨e1,e2,e3,e4,e⟩ | ⟨e1,e2,e3,e4,e5,e6,e⟩ | ⟨e1,e2,e3,e4,e5,e6,e7,e⟩ | e
 ·rw[e];unfold Lib.decodeN;rw[if_pos e1]
 ·rw[e]at hw h1⊢;rw[h1 (by simp)];exact PY e1 hw e3 e4
 ·rw[e]at hw h1 h2⊢;rw[h1 (by simp),h2 (by simp)];exact OH e1 hw e3 e4 e5 e6
 ·rw[e]at hw h1 h2 h3⊢;rw[h1 (by simp),h2 (by simp),h3 (by simp)];exact PX e1 hw e3 e4 e5 e6 e7
 ·exact absurd e hb
theorem NF(s:ByteArray){i p:Nat}(hp:p<i)(hi:i<=s.size)(hb:Utf8.decode s p≠(65533,1))(hw:p+(Utf8.decode s p).2<=i):Utf8.decode (s.extract 0 i) p=Utf8.decode s p:=by
 rw[Lib.decode_at]at hb hw;rw[Lib.decode_at,Lib.decode_at,Js s hi,Jj s hp];refine OE hb (by omega) (fun h=>?_) (fun h=>?_) (fun h=>?_)
 ·rw[Jj s (by omega)]
 ·rw[Jj s (by omega)]
 ·rw[Jj s (by omega)]
theorem Kx(s:ByteArray)(i:Nat)(hi:i<s.size)(h:(s.get! i).toNat<128):∀f pos,s.size<=pos+f->pos<=i->xD f s pos= -1->xD f (s.extract 0 i) pos= -1
 | 0,pos,hf,hp,_=>by omega
 | f+1,pos,hf,hp,hb=>by
   rw[xD,Js s (by omega)]
   by_cases he:pos=i
   ·rw[ae (by omega)]
   ·have hw:=Lib.decode_width_pos s pos (by omega);have hs:=JT s (pos:=pos) (by omega) h;rw[xD,if_pos (by omega)]at hb;rw[if_pos (by omega)];split at hb
    ·omega
    ·rename_i hn;rw[NF s (by omega) (by omega) (fun e=>hn (.inr (by rw[e];exact⟨rfl,rfl⟩))) hs,ae hn];exact Kx s i hi h f _ (by omega) hs hb
theorem KA{s:ByteArray}(hv:bN s=true){a i:Nat}(ha:a<s.size)(h1:(s.get! a).toNat<128)(h0:(s.get! a).toNat≠0)(hi:a+1+i<s.size)(h2:(s.get! (a+1+i)).toNat<128):
  bN ((s.extract (a+1) s.size).extract 0 i)=true:=by
 have hsz:=gL hv;have hb:tI s= -1:=by unfold bN at hv;simp at hv;exact hv.2
 obtain⟨f1,hf1,hb1⟩:=Lj s a ha h1 s.size 0 (by omega) (by omega) hb;obtain⟨f2,hf2,hb2⟩:∃f2,s.size<=a+1+f2/\xD f2 s (a+1)= -1:=by
  cases f1 with
  | zero=>omega
  | succ f1=>
    have hd:Utf8.decode s a=((s.get! a).toNat,1):=by
     rcases tw s a with ⟨e,-⟩ | ⟨-,-,hj⟩
     ·exact e
     ·have:=Lib.decode_width_pos s a ha;have:=hj 0 (by omega);rw[jV]at this;omega
    rw[xD,if_pos ha,hd,ae (by
     rintro (e| ⟨e,-⟩)
     ·exact h0 e
     ·simp only at e;omega)]at hb1
    exact⟨f1,by omega,hb1⟩
 have hb3:xD f2 (s.extract (a+1) s.size) 0= -1:=(Ll s (a+1) f2 0).2 hb2;have hz:=rJ s (a+1);have hb4:=Kx (s.extract (a+1) s.size) i (by omega) (by rw[II];exact h2) f2 0 (by omega) (by omega) hb3;have hz2:=Js (s.extract (a+1) s.size) (i:=i) (by omega);unfold bN;rw[hz2,au (by omega),aL];refine aK.2 ?_;unfold tI;rw[Lk _ _ f2 0 (by omega) (by omega),hb4]
def tt:List UInt8:=[36,115,104,97,114,101,47]
def gV(s:ByteArray):Bool:=tt.isPrefixOf (ls s)
def kY(s:ByteArray):ByteArray:=if gV s then s.extract 7 s.size else s
def ky(s:ByteArray):ByteArray×ByteArray×Bool:=
 if Lib.indexB s ⟨#[47]⟩= -1 then(s,⟨#[]⟩,false)else(s.extract 0 (Lib.indexB s ⟨#[47]⟩).toNat,s.extract ((Lib.indexB s ⟨#[47]⟩).toNat+1) s.size,true)
def fy(s:ByteArray):Bool:=gV s&&((ky (kY s)).2.2&&(bN s&&(fp (ky (kY s)).1&&gj (ky (kY s)).2.1)))
theorem Dc(s:ByteArray):(ky s).1.size<=s.size/\(ky s).2.1.size<=s.size:=by
 unfold ky;split
 ·exact⟨ac _,ag _⟩
 ·simp only[aj];omega
theorem Bd(s:ByteArray):(kY s).size<=s.size:=by
 unfold kY;split
 ·rw[aj];omega
 ·exact ac _
def KU(s:ByteArray):Bool:=
 bN s&&(gV s&&(decide (3<=(lvs s).length)&&((decide (((lvs s).getD 1 ⟨#[]⟩).size≠0)&& !(Hh (ls ((lvs s).getD 1 ⟨#[]⟩)) 43 || Hh (ls ((lvs s).getD 1 ⟨#[]⟩)) 35))&&gj ⟨(jn ((lvs s).drop 2)).toArray⟩)))
theorem vx{s:ByteArray}(h:gV s=true):7<=s.size/\(ls s)[6]? =some 47/\∀j,j<6->(ls s)[j]? ≠some 47:=by
 unfold gV at h;obtain⟨t,ht⟩:=List.isPrefixOf_iff_prefix.1 h;have hl:(ls s).length=7+t.length:=by rw[<-ht];simp[tt];omega
 rw[aN]at hl;refine⟨by omega,by rw[<-ht];rfl,fun j hj=>?_⟩;rw[<-ht];have:j=0\/j=1\/j=2\/j=3\/j=4\/j=5:=by omega
 rcases this with rfl| rfl| rfl| rfl| rfl| rfl<;>simp[tt]
theorem Na(s:ByteArray):KU s=fy s:=by
 unfold KU fy;cases hf:gV s
 ·simp
 cases hv:bN s
 ·simp
 simp only[aL];obtain⟨h7,h6,hn6⟩:=vx hf;have hr:kY s=s.extract 7 s.size:=if_pos hf;rw[hr,Er h6 hn6];rcases xk (s.extract 7 s.size)with hno| ⟨i,hi,hh,hno⟩
 ·have e:Lib.indexB (s.extract 7 s.size) ⟨#[47]⟩= -1:=xc hno;rw[show(6+1:Nat)=7 from rfl,Cm hno];unfold ky;rw[if_pos e];rfl
 ·have e:Lib.indexB (s.extract 7 s.size) ⟨#[47]⟩=i:=Aa hh hno;rw[show(6+1:Nat)=7 from rfl,Er hh hno];have hne:¬Lib.indexB (s.extract 7 s.size) ⟨#[47]⟩= -1:=by omega
  have hc:ky (s.extract 7 s.size)=((s.extract 7 s.size).extract 0 i,(s.extract 7 s.size).extract (i+1) (s.extract 7 s.size).size,true):=by
   unfold ky;rw[ae hne,e];rfl
  rw[hc];have hlen:3<=(s.extract 0 6 :: (s.extract 7 s.size).extract 0 i :: lvs ((s.extract 7 s.size).extract (i+1) (s.extract 7 s.size).size)).length:=by
   have:=n7 ((s.extract 7 s.size).extract (i+1) (s.extract 7 s.size).size);simp only[bM];omega
  rw[au hlen];simp only[aL,ji,cS,List.getD_cons_succ,List.getD_cons_zero];rw[Ov,Ck]
  congr 1
  have hz:=rJ s 7;have g6:s.get! 6=47:=by rw[Lc,h6];rfl
  have gi:s.get! (6+1+i)=47:=by
   rw[<-II,Lc];rw[hh];rfl
  have hvg:bN ((s.extract 7 s.size).extract 0 i)=true:=KA hv (a:=6) (by omega) (by rw[g6];decide) (by rw[g6];decide) (by omega) (by rw[gi];decide);unfold fp jY;rw[hvg,IK,Ky]
end Go.Proofs.YtbdgkkmbnahgiaaGreatDoor
namespace Go.Proofs.YtbdgkkmbnahgiaaGreatDoor
open Go.RowKit Go.Proofs.Tryz
def ir(v k:Int):Bool:=decide ((v=4\/v=5)/\8<=k/\k<=11)
def jm(k:Int):Bool:=decide (k=8\/k=10)
def pP(v k:Int):Bool:=decide (k=11/\v=4)
def sbQ(v:Int)(p:Pk):Pk:=
 if jm p.kind=true then {pk0 with kind:=p.kind,id:=p.id,props:=p.props,filters:=p.filters}
 else if pP v p.kind=true then {pk0 with kind:=p.kind,id:=p.id,props:=p.props}
 else {pk0 with kind:=p.kind,id:=p.id,props:=p.props,codes:=p.codes}
def lj(v:Int)(p:Pk):Bool:=if jm p.kind=true then decide (0<p.filters.length)else if pP v p.kind=true then true else decide (0<p.codes.length)
def eH(v:Int)(p:Pk):Bool:=!(decide (p.id<1) || (decide (65535<p.id) || (decide (v=4)&&decide (0<p.props.length))))&&(lj v p&&decide (p=sbQ v p))
def jZ(n:Int):Bool:=decide (0<=n)&&decide (n<3)
def l9(f:Fi):Bool:=decide (f=⟨f.topic,f.qos,false,false,0⟩)
def nT(v k:Int)(f:Fi):Bool:=
 if k=10 then l9 f&&decide (f.qos=0)else if v=4 then l9 f&&jZ f.qos else jZ f.qos&&(jZ f.handling&& !(fy f.topic&&f.noLocal))
def xF(v k c:Int):Bool:=if v=4 then tq c else may k c
def fiE(v k:Int):List Fi->Int
 | []=>0
 | f :: l=>if gj f.topic=false then 10 else if nT v k f=false then 2 else fiE v k l
def cdE(v k:Int):List Int->Int
 | []=>0
 | c :: l=>if xF v k c=false then 2 else cdE v k l
def xY(v:Int)(p:Pk):Bool:=ir v p.kind&&eH v p
def sbE(v:Int)(p:Pk):Int:=
 if xY v p=false then 2 else if(aM p.kind p.props).2≠0 then(aM p.kind p.props).2
 else if fiE v p.kind p.filters≠0 then fiE v p.kind p.filters else cdE v p.kind p.codes
end Go.Proofs.YtbdgkkmbnahgiaaGreatDoor
