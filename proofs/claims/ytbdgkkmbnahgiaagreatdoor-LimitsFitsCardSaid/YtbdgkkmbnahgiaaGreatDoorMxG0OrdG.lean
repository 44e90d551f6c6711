/- A part of what the laws stand on: OrdG, MRft. -/
import Derived.Below
import Derived.Test.YtbdgkkmbnahgiaaGreatDoorMxG0MRfB
set_option maxRecDepth 10000
set_option maxHeartbeats 8000000
namespace Go.Proofs.YtbdgkkmbnahgiaaGreatDoor
open Go Go.RowKit
open Go.Proofs.Tryz
inductive Kd where
 | fix (v:Value)
 | rel (R:Value->World->Prop)
def Kd.val:Kd->Value->Value
 | .fix v,_=>v
 | .rel _,u=>u
def Kd.fits:Kd->Value->World->Prop
 | .fix v,u,_=>u=v
 | .rel R,u,w=>R u w
def Kd.holds(k:Kd)(u:Value)(w:World):Prop:=k.fits (k.val u) w
def Kd.stable(k:Kd):Prop:=∀u x y,k.fits u x->Below x.heap.size x y->k.fits u y
theorem Kd.val_of{k:Kd}{u:Value}{w:World}(h:k.fits u w):k.val u=u:=by
 cases k with
 | fix v=>exact h.symm
 | rel R=>rfl
theorem Wo(v:Value):(Kd.fix v).stable:=fun _ _ _ h _=>h
def Ww(P:Program)(Post:Value->World->Prop):Result Next->Prop
 | .ok (.value v) w'=>Post v w'
 | .ok .skip w'=>Post undef w'
 | .ok (.enter f args) w'=>Calls P f args w' fun e w''=>∃v,e= .returned v/\Post v w''
 | _=>False
def Wn(o:Oper)(j:Nat):Bool:=o.after.any fun e=>Region.binds .any e&&e.on==j
def Ws(ops:Array Oper)(i:Nat)(o oj:Oper):Bool:=
 (match o.dst with| some d=>oj.dst !=some d&&(!(oj.looksAt ops).contains d || Wn oj i) | none=>true)&&
 (match oj.dst with| some d=>!(o.looksAt ops).contains d| none=>true)
def Wx(ops:Array Oper):Nat->List Oper->Bool
 | _,[]=>true
 | i,o :: l=>(o.after.all fun e=>!Region.binds .any e || decide (e.on<i))&&((match o.dst with| some d=>!(o.looksAt ops).contains d| none=>true)&&((l.all fun oj=>Ws ops i o oj)&&Wx ops (i+1) l))
section
variable {P:Program} {ops:Array Oper} {Q:Exit->Act->World->Prop}
structure ChkG (ops:Array Oper):Prop where
 up:∀(i:Nat) (o:Oper),ops[i]? =some o->∀e∈o.after,Region.binds .any e=true->e.on<i
 one:∀(i j:Nat) (o oj:Oper) (d:Tmp),ops[i]? =some o->ops[j]? =some oj->o.dst=some d->oj.dst=some d->i=j
 look:∀(i j:Nat) (o oj:Oper) (d:Tmp),ops[i]? =some o->ops[j]? =some oj->oj.dst=some d->d∈o.looksAt ops->Wn o j=true
theorem Wp{i:Nat}:∀ {l:List Oper} {k:Nat},Wx ops k l=true->∀a b o oj,a<b->l[a]? =some o->l[b]? =some oj->Ws ops (k+a) o oj=true
 | [],_,_,a,_,_,_,_,h,_=>by simp at h
 | x :: l,k,hB,a,b,o,oj,hab,ha,hb=>by
   simp only[Wx,eh]at hB;obtain⟨-,-,h1,h2⟩:=hB;obtain⟨b,rfl⟩:∃c,b=c+1:=⟨b- 1,by omega⟩;rw[aE]at hb;cases a with
   | zero=>
     rw[aB]at ha;cases ha;exact dL.1 h1 oj (iL hb)
   | succ a=>
     rw[aE]at ha;have:=Wp (i:=i) h2 a b o oj (by omega) ha hb;rwa[Nat.add_assoc,Nat.add_comm 1 a]at this
theorem Wr:∀ {l:List Oper} {k:Nat},Wx ops k l=true->∀a o,l[a]? =some o->(∀e∈o.after,Region.binds .any e=true->e.on<k+a)/\(∀d,o.dst=some d->d ∉ o.looksAt ops)
 | [],_,_,a,_,h=>by simp at h
 | x :: l,k,hB,a,o,ha=>by
   simp only[Wx,eh]at hB;obtain⟨h1,h2,h3,h4⟩:=hB;cases a with
   | zero=>
     rw[aB]at ha;cases ha;refine⟨fun e he hb=>?_,fun d hd hm=>?_⟩
     ·have:=Array.all_eq_true_iff_forall_mem.1 h1 e he;rw[hb]at this
      simpa using this
     ·rw[hd]at h2;simp only[Bool.not_eq_true',List.contains_eq_mem,Ip]at h2;exact h2 hm
   | succ a=>
     rw[aE]at ha;have:=Wr h4 a o ha;rwa[Nat.add_assoc,Nat.add_comm 1 a]at this
theorem WH(h:Wx ops 0 ops.toList=true):ChkG ops:=by
 have hl:∀i,ops.toList[i]? =ops[i]? :=fun i=>Array.getElem?_toList;refine⟨fun i o ho e he hb=>?_,fun i j o oj d ho hoj hd hd'=>?_,fun i j o oj d ho hoj hd hm=>?_⟩
 ·have:=(Wr h i o (by rw[hl];exact ho)).1 e he hb;omega
 ·rcases Nat.lt_trichotomy i j with hij| hij| hij
  ·have:=Wp (i:=0) h i j o oj hij (by rw[hl];exact ho) (by rw[hl];exact hoj);simp[Ws,hd,hd']at this
  ·exact hij
  ·have:=Wp (i:=0) h j i oj o hij (by rw[hl];exact hoj) (by rw[hl];exact ho);simp[Ws,hd,hd']at this
 ·rcases Nat.lt_trichotomy i j with hij| hij| hij
  ·have:=Wp (i:=0) h i j o oj hij (by rw[hl];exact ho) (by rw[hl];exact hoj);simp only[Ws,hd,eh,Bool.not_eq_true',List.contains_eq_mem,Ip]at this;exact absurd hm this.2
  ·subst hij;obtain rfl:o=oj:=Option.some.inj (ho.symm.trans hoj);exact absurd hm ((Wr h i o (by rw[hl];exact ho)).2 d hd)
  ·have:=Wp (i:=0) h j i oj o hij (by rw[hl];exact hoj) (by rw[hl];exact ho);simp only[Ws,hd,eh,Bool.or_eq_true,Bool.not_eq_true',List.contains_eq_mem,Ip,bV]at this;exact this.1.2.resolve_left (fun x=>x hm)
structure ActIs (ops:Array Oper) (a0:Act) (f:Nat->Value) (L:Nat->Prop) (a:Act):Prop where
 size:a.tmps.size=a0.tmps.size
 defs:a.defers=a0.defers
 got:∀(j:Nat) (o:Oper) (d:Tmp),ops[j]? =some o->o.dst=some d->L j->a.tmps[d]? =if d<a0.tmps.size then some (f j)else none
 old:∀d:Tmp,(∀(j:Nat) (o:Oper),ops[j]? =some o->o.dst=some d->¬L j)->a.tmps[d]? =a0.tmps[d]?
theorem ActIs.eq{a0 a b:Act}{f:Nat->Value}{L:Nat->Prop}(ha:ActIs ops a0 f L a)(hb:ActIs ops a0 f L b):a=b:=by
 obtain⟨ta,da⟩:=a;obtain⟨tb,db⟩:=b;obtain rfl:da=db:=ha.defs.trans hb.defs.symm
 congr 1
 apply Il;intro d
 by_cases h:∃j:Nat,∃o:Oper,ops[j]? =some o/\o.dst=some d/\L j
 ·obtain⟨j,o,h1,h2,h3⟩:=h;exact(ha.got j o d h1 h2 h3).trans (hb.got j o d h1 h2 h3).symm
 ·have h':∀j (o:Oper),ops[j]? =some o->o.dst=some d->¬L j:=fun j o h1 h2 h3=>h ⟨j,o,h1,h2,h3⟩;exact(ha.old d h').trans (hb.old d h').symm
theorem ActIs.congr{a0 a:Act}{f g:Nat->Value}{L L':Nat->Prop}(ha:ActIs ops a0 f L a)(hL:∀j,L j↔L' j)(hf:∀j,L j->f j=g j):ActIs ops a0 g L' a:=
 ⟨ha.size,ha.defs,fun j o d h1 h2 h3=>by rw[ha.got j o d h1 h2 ((hL j).2 h3),hf j ((hL j).2 h3)],fun d h=>ha.old d fun j o h1 h2 h3=>h j o h1 h2 ((hL j).1 h3)⟩
theorem ActIs.put{a0 a:Act}{f:Nat->Value}{L:Nat->Prop}(hc:ChkG ops)(ha:ActIs ops a0 f L a){i:Nat}{o:Oper}(ho:ops[i]? =some o)(hi:¬L i):ActIs ops a0 f (fun j=>L j\/j=i) (a.put o.dst (f i)):=by
 unfold Act.put;cases hd:o.dst with
 | none=>
   refine⟨ha.size,ha.defs,fun j oj d h1 h2 h3=>?_,fun d h=>ha.old d fun j oj h1 h2 h3=>h j oj h1 h2 (.inl h3)⟩;rcases h3 with h3| rfl
   ·exact ha.got j oj d h1 h2 h3
   ·rw[ho]at h1;cases h1;rw[hd]at h2;cases h2
 | some e=>
   refine⟨by simp[ha.size],ha.defs,fun j oj d h1 h2 h3=>?_,fun d h=>?_⟩
   ·show(a.tmps.setIfInBounds e (f i))[d]? =_
    by_cases hde:e=d
    ·subst hde;obtain rfl:=hc.one i j o oj e ho h1 hd h2;rw[<-ha.size];simp[Array.getElem?_setIfInBounds]
    ·rw[eK hde];rcases h3 with h3| rfl
     ·exact ha.got j oj d h1 h2 h3
     ·rw[ho]at h1;cases h1;rw[hd]at h2;exact absurd (Option.some.inj h2) hde
   ·show(a.tmps.setIfInBounds e (f i))[d]? =_;have hde:e≠d:=fun x=>h i o ho (by rw[hd,x]) (.inr rfl);rw[eK hde];exact ha.old d fun j oj h1 h2 h3=>h j oj h1 h2 (.inl h3)
theorem ActIs.slot{a0 a b:Act}{f:Nat->Value}{L L':Nat->Prop}(hc:ChkG ops)(ha:ActIs ops a0 f L a)(hb:ActIs ops a0 f L' b){i:Nat}{o:Oper}(ho:ops[i]? =some o)
  (h1:∀j,Wn o j=true->L j/\L' j){t:Tmp}(ht:t∈o.looksAt ops):a.tmps[t]? =b.tmps[t]? :=by
 by_cases h:∃j:Nat,∃oj:Oper,ops[j]? =some oj/\oj.dst=some t
 ·obtain⟨j,oj,h2,h3⟩:=h;have h4:=h1 j (hc.look i j o oj t ho h2 h3 ht);exact(ha.got j oj t h2 h3 h4.1).trans (hb.got j oj t h2 h3 h4.2).symm
 ·exact(ha.old t fun j oj h2 h3 _=>h ⟨j,oj,h2,h3⟩).trans (hb.old t fun j oj h2 h3 _=>h ⟨j,oj,h2,h3⟩).symm
theorem ActIs.exec{a0 a b:Act}{f:Nat->Value}{L L':Nat->Prop}(hc:ChkG ops)(ha:ActIs ops a0 f L a)(hb:ActIs ops a0 f L' b){i:Nat}{o:Oper}(ho:ops[i]? =some o)(hs:∀cs b,o.op≠ .select cs b)
  (h1:∀j,Wn o j=true->L j/\L' j):execOp a.eval o=execOp b.eval o/\Region.wanted o (yielded ops a.tmps)=Region.wanted o (yielded ops b.tmps):=by
 refine⟨execOp_congr o hs fun x hx=>?_,?_⟩
 ·cases x with
  | tmp t=>
    have ht:t∈o.looksAt ops:=List.mem_append_left _ (List.mem_filterMap.2 ⟨.tmp t,by simpa using hx,rfl⟩);have:=ha.slot hc hb ho h1 ht;simp only[Act.eval,Jf,this]
  | _=>rfl
 ·unfold Region.wanted;cases hg:o.guard with
  | none=>rfl
  | some gw=>
    obtain⟨g,want⟩:=gw;have hy:yielded ops a.tmps g=yielded ops b.tmps g:=by
     unfold yielded;cases ht:(ops[g]?).bind (·.dst)with
     | none=>rfl
     | some t=>
       have:=ha.slot hc hb ho h1 (t:=t) (by simp[Oper.looksAt,hg,ht]);simp only[Option.bind_some,this]
    simp only[hy]
def Wu(P:Program)(ops:Array Oper)(w0:World)(H:Nat->World->Prop)(o:Oper)(a:Act)(kd:Kd):Prop:=
 kd.stable/\∀x,Below w0.heap.size w0 x->(∀j,Wn o j=true->H j x)->if Region.wanted o (yielded ops a.tmps)=true then Ww P (fun u y=>kd.fits u y/\Below x.heap.size x y) ((execOp a.eval o).run P x)else kd.fits undef x
def wpG(P:Program)(ops:Array Oper)(w0:World)(vs:Nat->Value)(H:Nat->World->Prop)(Qf:Act->Prop):List Kd->Nat->List Oper->Act->Prop
 | kd :: ks,k,o :: l,a=>Wu P ops w0 H o a kd/\wpG P ops w0 vs H Qf ks (k+1) l (a.put o.dst (kd.val (vs k)))
 | [],_,[],a=>Qf a
 | _,_,_,_=>False
theorem WC{w0:World}{vs:Nat->Value}{H:Nat->World->Prop}{Qf:Act->Prop}{a0:Act}{K:Nat->Kd}(hc:ChkG ops):∀(ks:List Kd) (k:Nat) (l:List Oper) (a:Act),wpG P ops w0 vs H Qf ks k l a->(∀j,l[j]? =ops[k+j]?)->(∀j,j<ks.length->ks[j]? =some (K (k+j)))->
  ActIs ops a0 (fun j=>(K j).val (vs j)) (fun j=>j<k) a->
  (∀i o,k<=i->ops[i]? =some o->∃b,ActIs ops a0 (fun j=>(K j).val (vs j)) (fun j=>j<i) b/\Wu P ops w0 H o b (K i))/\∃b,ActIs ops a0 (fun j=>(K j).val (vs j)) (fun j=>j<ops.size) b/\Qf b
 | kd :: ks,k,o :: l,a,h,hl,hK,hA=>by
   obtain⟨h1,h2⟩:=h;have ho:ops[k]? =some o:=(hl 0).symm;have hk:kd=K k:=by
    have:=hK 0 (by simp)
    simpa using this
   subst hk;obtain⟨i1,i2⟩:=WC hc ks (k+1) l _ h2 (fun j=>by have:=hl (j+1);rw[aE]at this;rw[this];congr 1;omega) (fun j hj=>by have:=hK (j+1) (by simpa using hj);rw[aE]at this;rw[this];congr 2;omega)
    ((hA.put hc ho (WQ k)).congr (fun j=>by omega) (fun _ _=>rfl))
   refine⟨fun i oi hi hoi=>?_,i2⟩;rcases Nat.eq_or_lt_of_le hi with rfl| hlt
   ·rw[ho]at hoi;cases hoi;exact⟨a,hA,h1⟩
   ·exact i1 i oi hlt hoi
 | [],k,[],a,h,hl,_,hA=>by
   have hn:ops.size<=k:=by
    have:=hl 0;rw[List.getElem?_nil,jV]at this;exact Array.getElem?_eq_none_iff.1 this.symm
   have hno:∀j o,ops[j]? =some o->j<ops.size:=fun j o ho=>(cZ.1 ho).1;refine⟨fun i o hi ho=>absurd (hno i o ho) (by omega),a,⟨hA.size,hA.defs,fun j o d h1 h2 h3=>hA.got j o d h1 h2 (by omega),fun d hd=>hA.old d fun j o h1 h2 _=>hd j o h1 h2 (hno j o h1)⟩,h⟩
 | [],_,_ :: _,_,h,_,_,_=>by cases h
 | _ :: _,_,[],_,h,_,_,_=>by cases h
theorem WG{p q:Nat->Bool}(h:∀x,q x=true->p x=true):∀l:List Nat,(l.filter q).length<=(l.filter p).length
 | []=>ac _
 | x :: l=>by
   have:=WG h l
   by_cases hq:q x=true
   ·rw[List.filter_cons_of_pos hq,List.filter_cons_of_pos (h x hq)]
    simpa using this
   ·rw[List.filter_cons_of_neg hq]
    by_cases hp:p x=true
    ·rw[List.filter_cons_of_pos hp,bM];omega
    ·rw[List.filter_cons_of_neg hp];exact this
theorem WE{p q:Nat->Bool}(h:∀x,q x=true->p x=true){i:Nat}(hp:p i=true)(hq:¬q i=true):∀l:List Nat,i∈l->(l.filter q).length<(l.filter p).length
 | [],h=>by cases h
 | x :: l,hm=>by
   have hle:=WG h l
   by_cases hx:x=i
   ·subst hx;rw[List.filter_cons_of_pos hp,List.filter_cons_of_neg hq,bM];omega
   ·have:=WE h hp hq l ((ie.1 hm).resolve_left (fun e=>hx e.symm))
    by_cases hqx:q x=true
    ·rw[List.filter_cons_of_pos hqx,List.filter_cons_of_pos (h x hqx)]
     simpa using this
    ·rw[List.filter_cons_of_neg hqx]
     by_cases hpx:p x=true
     ·rw[List.filter_cons_of_pos hpx,bM];omega
     ·rw[List.filter_cons_of_neg hpx];exact this
theorem Wt{listed:Array Bool}{j:Nat}(hj:j<listed.size)(h:listed.getD j true=false):listed.getD j false=false:=by
 simp[hj]at h⊢;exact h
theorem WI{w0:World}{a0:Act}{K:Nat->Kd}(hc:ChkG ops)(hs:Region.noSelect ops=true)(hst:∀j,(K j).stable)
  (hcl:∀vs:Nat->Value,(∀i o,ops[i]? =some o->∃b,ActIs ops a0 (fun j=>(K j).val (vs j)) (fun j=>j<i) b/\Wu P ops w0 (fun j x=>(K j).holds (vs j) x) o b (K i))/\
    ∃b,ActIs ops a0 (fun j=>(K j).val (vs j)) (fun j=>j<ops.size) b/\∀x,Below w0.heap.size w0 x->(∀j,j<ops.size->(K j).holds (vs j) x)->Q .normal b x):
  ∀(fuel:Nat) (listed:Array Bool) (a:Act) (w:World) (vs:Nat->Value),listed.size=ops.size->((List.range ops.size).filter fun i=>!listed.getD i true).length<=fuel->
   ActIs ops a0 (fun j=>(K j).val (vs j)) (fun j=>listed.getD j false=true) a->Below w0.heap.size w0 w->(∀j,listed.getD j false=true->(K j).holds (vs j) w)->wpAny P .any ops Q fuel listed a w:=by
 have hend:∀(listed:Array Bool) (a:Act) (w:World) (vs:Nat->Value),listed.size=ops.size->ActIs ops a0 (fun j=>(K j).val (vs j)) (fun j=>listed.getD j false=true) a->Below w0.heap.size w0 w->(∀j,listed.getD j false=true->(K j).holds (vs j) w)->(∀j,j<ops.size->listed.getD j false=true)->Q .normal a w:=by
  intro listed a w vs hz hA hB hR hall;obtain⟨-,b,hb,hq⟩:=hcl vs;have:a=b:=(hA.congr (L':=fun j=>j<ops.size) (fun j=>⟨fun h=>by
   rcases fj j listed.size with h'| h'
   ·omega
   ·simp[Array.getElem?_eq_none h']at h,hall j⟩) (fun _ _=>rfl)).eq hb
  rw[this];exact hq w hB fun j hj=>hR j (hall j hj)
 intro fuel
 induction fuel with
 | zero=>
   intro listed a w vs hz hf hA hB hR;have h0:=aF (Nat.le_zero.1 hf);have hall:∀j,j<ops.size->listed.getD j false=true:=fun j hj=>by
    have:=List.filter_eq_nil_iff.1 h0 j (gn.2 hj);simp[show j<listed.size by omega]at this⊢;exact this
   refine⟨List.eq_nil_iff_forall_not_mem.2 fun j hj=>?_,hend listed a w vs hz hA hB hR hall⟩;obtain⟨h1,o,ho,-⟩:=mem_ready.1 hj;have hlt:j<ops.size:=(cZ.1 ho).1;have:=hall j hlt;rw[Wt (by omega) h1]at this;cases this
 | succ fuel ih=>
   intro listed a w vs hz hf hA hB hR;refine⟨fun h0=>hend listed a w vs hz hA hB hR fun j hj=>?_,fun i hi=>?_⟩
   ·induction j using Nat.strongRecOn with
    | ind j ihj=>
      cases hl:listed.getD j false with
      | true=>rfl
      | false=>
        exfalso;obtain⟨o,ho⟩:∃o,ops[j]? =some o:=⟨ops[j],eL hj⟩;have:j∈Region.ready .any ops listed:=mem_ready.2 ⟨by
         simp[show j<listed.size by omega]at hl⊢;exact hl,o,ho,fun e he hb=>by
         have:=hc.up j o ho e he hb;exact ihj e.on this (by omega)⟩
        rw[h0]at this;cases this
   ·obtain⟨hun,o,ho,hall⟩:=mem_ready.1 hi;have hlt:i<ops.size:=(cZ.1 ho).1;have hunl:=Wt (by omega) hun;have hdep:∀j,Wn o j=true->listed.getD j false=true/\j<i:=fun j hj=>by
     obtain⟨e,he,hb⟩:=Array.any_eq_true'.1 hj;simp only[eh,aK]at hb;rw[<-hb.2];exact⟨hall e he hb.1,hc.up i o ho e he hb.1⟩
    obtain⟨b,hb,hcl1⟩:=(hcl vs).1 i o ho;obtain⟨he,hw⟩:=hA.exec hc hb ho (fun cs b=>Region.noSelect_spec hs i o cs b ho) hdep;have hres:=hcl1.2 w hB fun j hj=>hR j (hdep j hj).1;have next:∀u y,(K i).fits u y->Below w.heap.size w y->wpAny P .any ops Q fuel (listed.setIfInBounds i true) (a.put o.dst u) y:=by
     intro u y hu hy;have hsz:i<listed.size:=by omega
     have hset:∀j,(listed.setIfInBounds i true).getD j false=true↔(listed.getD j false=true\/j=i):=fun j=>by
      by_cases hij:i=j
      ·subst hij;simp[hsz]
      ·rw[getD_set_ne false hij];exact⟨.inl,fun h=>h.resolve_right fun e=>hij e.symm⟩
     have hA':=(hA.congr (g:=fun j=>(K j).val (if j=i then u else vs j)) (fun _=>Iff.rfl) (fun j hj=>by
      rw[ae (fun e=>by rw[e,hunl]at hj;cases hj)])).put hc ho (by rw[hunl];decide)
     rw[if_pos rfl,Kd.val_of hu]at hA';refine ih (listed.setIfInBounds i true) (a.put o.dst u) y (fun j=>if j=i then u else vs j) (by rw[Array.size_setIfInBounds];exact hz) ?_ (hA'.congr (fun j=>(hset j).symm) (fun _ _=>rfl)) (hB.trans (hy.mono hB.size)) fun j hj=>?_
     ·have:=WE (p:=fun k=>!listed.getD k true) (q:=fun k=>!(listed.setIfInBounds i true).getD k true) (fun k hk=>by
       by_cases hik:i=k
       ·subst hik;simp[hsz]at hk
       ·rw[getD_set_ne true hik]at hk;exact hk) (i:=i) (by simp[hun]) (by simp[hsz]) (List.range ops.size) (gn.2 hlt)
      omega
     ·rcases(hset j).1 hj with h| rfl
      ·rw[ae (fun e=>by rw[e,hunl]at h;cases h)];exact hst j _ w y (hR j h) hy
      ·rw[if_pos rfl];unfold Kd.holds;rw[Kd.val_of hu];exact hu
    unfold wpOp;simp only[ho];rw[hw];split
    ·rename_i hwt;rw[if_pos hwt]at hres;refine .inl ?_;unfold Oper.wp;rw[he];generalize (execOp b.eval o).run P w=r at*;cases r with
     | ok n w'=>
       cases n<;>simp only[Ww]at hres<;>simp only[Oper.upon]
       case value u=>exact next u w' hres.1 hres.2
       case skip=>exact next undef w' hres.1 hres.2
       case enter f args=>
        refine Calls.mono hres fun e w'' hp=>?_;obtain⟨u,rfl,h1,h2⟩:=hp;exact next u w'' h1 h2
     | halt x w'=>exact absurd hres (by simp[Ww])
    ·rename_i hwt;rw[ae hwt]at hres;exact next undef w hres (aq _ _)
theorem Wq{id:Nat}{a:Act}{w:World}(ks:List Kd)(hm:P.follows .mixedOrders=true)
  (h:∀vs:Nat->Value,wpG P ops w vs (fun j x=>(ks.getD j (.fix undef)).holds (vs j) x) (fun a'=>∀x,Below w.heap.size w x->(∀j,j<ops.size->(ks.getD j (.fix undef)).holds (vs j) x)->Q .normal a' x) ks 0 ops.toList a)
  (hB:(Region.noSelect ops&&(ks.length==ops.size&&Wx ops 0 ops.toList))=true):(Code.region id ops true).wp P Q a w:=by
 simp only[eh,aK]at hB;obtain⟨h1,h2,h3⟩:=hB;have hc:=WH h3;have hA0:∀f:Nat->Value,ActIs ops a f (fun j=>j<0) a:=fun f=>⟨rfl,rfl,fun j o d _ _ h=>absurd h (Nat.not_lt_zero _),fun d _=>rfl⟩;have hall:=fun vs:Nat->Value=>WC (K:=fun j=>ks.getD j (.fix undef)) hc ks 0 ops.toList a (h vs) (fun j=>by rw[bV];exact Array.getElem?_toList) (fun j hj=>by
  rw[bV,List.getElem?_eq_getElem hj];simp[List.getD_eq_getElem?_getD,List.getElem?_eq_getElem hj]) (hA0 _)
 have hrep:∀j,(Array.replicate ops.size false).getD j false=false:=fun j=>by
  rcases fj j ops.size with h'| h'<;>simp[h']
 refine wp_region_any hm (WI (w0:=w) (a0:=a) (K:=fun j=>ks.getD j (.fix undef)) hc h1 (fun j=>?_) (fun vs=>⟨fun i o ho=>(hall vs).1 i o (ag _) ho,(hall vs).2⟩) ops.size _ a _ (fun _=>undef) (by simp) ?_ ((hA0 _).congr (fun j=>by rw[hrep];simp) (fun _ _=>rfl)) ?_ (fun j hj=>?_))
 ·rcases fj j ops.size with hj| hj
  ·obtain⟨b,-,hb⟩:=(hall fun _=>undef).1 j ops[j] (ag _) (eL hj);exact hb.1
  ·show(ks.getD j (.fix undef)).stable;rw[List.getD_eq_getElem?_getD,aG (by omega)];exact Wo undef
 ·refine aC (WJ _ _) ?_;rw[List.length_range];exact ac _
 ·exact⟨rfl,rfl,rfl,ac _,fun _ _=>rfl⟩
 ·rw[hrep]at hj;cases hj
theorem Wk{w0:World}{vs:Nat->Value}{H:Nat->World->Prop}{Qf:Act->Prop}{ks:List Kd}{k:Nat}{o:Oper}{l:List Oper}{a:Act}{v:Value}
  (hy:YieldsIf P ops (fun x=>Below w0.heap.size w0 x) o v a)(h:wpG P ops w0 vs H Qf ks (k+1) l (a.put o.dst v)):wpG P ops w0 vs H Qf (.fix v :: ks) k (o :: l) a:=by
 refine⟨⟨Wo v,fun x hx _=>?_⟩,h⟩;rcases hy with ⟨h1,h2⟩ | ⟨h1,h2⟩
 ·rw[if_pos h1,h2 x hx];exact⟨rfl,aq _ _⟩
 ·rw[ae (by rw[h1];decide)];exact h2.symm
theorem Wm{w0:World}{vs:Nat->Value}{H:Nat->World->Prop}{Qf:Act->Prop}{ks:List Kd}{k:Nat}{o:Oper}{l:List Oper}{a:Act}{v:Value}{f:FuncId}{args:Array Value}
  (hc:∀x,Below w0.heap.size w0 x->(∀j,Wn o j=true->H j x)->Calls P f args x fun e y=>e= .returned v/\Below x.heap.size x y)(hw:Region.wanted o (yielded ops a.tmps)=true)
  (hr:∀x,Below w0.heap.size w0 x->(execOp a.eval o).run P x= .ok (.enter f args) x)(h:wpG P ops w0 vs H Qf ks (k+1) l (a.put o.dst v)):wpG P ops w0 vs H Qf (.fix v :: ks) k (o :: l) a:=
 ⟨⟨Wo v,fun x hx hH=>by
   rw[if_pos hw,hr x hx];exact(hc x hx hH).mono fun e y he=>⟨v,he.1,rfl,he.2⟩⟩,h⟩
theorem Wy{w0:World}{vs:Nat->Value}{H:Nat->World->Prop}{Qf:Act->Prop}{ks:List Kd}{k:Nat}{o:Oper}{l:List Oper}{a:Act}(R:Value->World->Prop)(hR:(Kd.rel R).stable)
  (hw:Region.wanted o (yielded ops a.tmps)=true)(hy:∀x,Below w0.heap.size w0 x->(∀j,Wn o j=true->H j x)->∃u y,(execOp a.eval o).run P x= .ok (.value u) y/\R u y/\Below x.heap.size x y)(h:wpG P ops w0 vs H Qf ks (k+1) l (a.put o.dst (vs k))):wpG P ops w0 vs H Qf (.rel R :: ks) k (o :: l) a:=
 ⟨⟨hR,fun x hx hH=>by
   obtain⟨u,y,h1,h2⟩:=hy x hx hH;rw[if_pos hw,h1];exact h2⟩,h⟩
theorem WD{w0:World}{vs:Nat->Value}{H:Nat->World->Prop}{Qf:Act->Prop}{ks:List Kd}{k:Nat}{o:Oper}{l:List Oper}{a:Act}{v:Value}
  (hw:Region.wanted o (yielded ops a.tmps)=true)(hy:∀x,Below w0.heap.size w0 x->(∀j,Wn o j=true->H j x)->(execOp a.eval o).run P x= .ok (.value v) x)(h:wpG P ops w0 vs H Qf ks (k+1) l (a.put o.dst v)):wpG P ops w0 vs H Qf (.fix v :: ks) k (o :: l) a:=
 ⟨⟨Wo v,fun x hx hH=>by
   rw[if_pos hw,hy x hx hH];exact⟨rfl,aq _ _⟩⟩,h⟩
theorem Wz{w0:World}{vs:Nat->Value}{H:Nat->World->Prop}{Qf:Act->Prop}{k:Nat}{a:Act}(h:Qf a):wpG P ops w0 vs H Qf [] k [] a:=h
end
end Go.Proofs.YtbdgkkmbnahgiaaGreatDoor
namespace Go.Proofs.YtbdgkkmbnahgiaaGreatDoor
open Go.RowKit Go.Proofs.Tryz
def Hn(v:Int)(p:Pk):Bool:=decide (pe v p.kind=true/\p=qS p/\¬(v=4/\(p.code≠0\/0<p.props.length))/\1<=p.id/\p.id<=65535/\may p.kind p.code=true)
theorem Ir{v k:Int}{l:List Pr}(h:v=4->l.length=0):GI v k l=(aM k l).2:=by
 unfold GI
 by_cases h4:v=4
 ·have h0:=h h4;have hl:l=[]:=aF h0;subst hl;rw[if_pos h4,ae (by simp),vL]
 ·rw[ae h4]
theorem OS(v:Int)(p:Pk):eS v p=if Hn v p=true then GI v p.kind p.props else 2:=by
 by_cases h:Hn v p=true
 ·obtain⟨g1,g2,g3,g4,g5,g6⟩:=aR (show decide _=true from h);have h0:v=4->p.props.length=0:=fun h4=>by
   have:¬(0<p.props.length):=fun x=>g3 ⟨h4,.inr x⟩;omega
  rw[if_pos h,Ir h0];unfold eS;rw[ae,ae,ae]
  ·exact fun x=>x g2
  ·rintro ⟨x,y| y⟩
   ·exact g3 ⟨x,.inl y⟩
   ·exact y (h0 x)
  ·rintro (x| x| x| x)
   ·rw[g1]at x;cases x
   ·omega
   ·omega
   ·rw[g6]at x;cases x
 ·rw[ae h];have hn:¬(pe v p.kind=true/\p=qS p/\¬(v=4/\(p.code≠0\/0<p.props.length))/\1<=p.id/\p.id<=65535/\may p.kind p.code=true):=fun x=>h (au x);unfold eS
  by_cases c1:pe v p.kind=false\/p.id<=0\/65536<=p.id\/may p.kind p.code=false
  ·rw[if_pos c1]
  rw[ae c1]
  by_cases c2:v=4/\(p.code≠0\/p.props.length≠0)
  ·rw[if_pos c2]
  rw[ae c2]
  by_cases c3:p=qS p
  ·exfalso;apply hn;refine⟨?_,c3,?_,?_,?_,?_⟩
   ·cases e:pe v p.kind
    ·exact absurd (.inl e) c1
    ·rfl
   ·rintro ⟨x,y| y⟩
    ·exact c2 ⟨x,.inl y⟩
    ·exact c2 ⟨x,.inr (by omega)⟩
   ·have:¬p.id<=0:=fun x=>c1 (.inr (.inl x));omega
   ·have:¬65536<=p.id:=fun x=>c1 (.inr (.inr (.inl x)));omega
   ·cases e:may p.kind p.code
    ·exact absurd (.inr (.inr (.inr e))) c1
    ·rfl
  ·rw[if_pos c3]
def Ia(v k c:Int)(l:List Pr):ByteArray:=if v=5 then⟨(oG k c l).toArray⟩else⟨#[]⟩
theorem MZ(v k:Int)(l:List Pr):(Hq v k l).size<=131075004:=by
 unfold Hq;split
 ·exact ag _
 ·rw[GW]
  by_cases h:(aM k l).2=0
  ·exact(G6 k l h).2
  ·rw[Ix k l h];exact ag _
theorem Mf(v k c:Int)(l:List Pr):(Ia v k c l).size<=131075005:=by
 unfold Ia;split
 ·rw[GW];unfold oG;split
  ·exact ag _
  ·rw[List.length_append,fM];split
   ·exact aC (ac 1) (by decide)
   ·by_cases h:(aM k l).2=0
    ·have:=(G6 k l h).2;omega
    ·rw[Ix k l h];exact aC (ac 1) (by decide)
 ·exact ag _
section
attribute [local go_sem ↓] bD bF bH bI bu
attribute [local go_sem] bc aD bh bg bK bJ bd aY be ax cI dC dB dt dj di dA dr dp dn bW co bO bZ bX cz cy cw cu ct cC cn bS bP bR
theorem Mh(p:Pk)(h:Hs)(w:World):(qP #[(0,.int .i64 p.kind),(4,.int .i64 p.id),(17,.int .i64 p.code),(20,.slice h.props.a p.props.length h.props.c)]).run prog w= .ok (pkV (qS p) (vU h)) w:=by kernel_rfl
theorem JS(v:Int)(p:Pk)(h:Hs)(w:World)(ip:PkIn w w.heap.size p h)(ok:PkOk p):
  Calls prog 245 #[.int .i64 v,pkV p h] w fun e w'=>e= .returned (.bool (Hn v p))/\Below w.heap.size w w':=by
 have OK:=aa ok;have S0:=aa ((St.start w).push ip);clear ip ok;go_enter func245,ntmps245;have k0:=S0.o.cell 0 rfl 0;rw[cI]at k0
 go_wp2_with fail
 refine(pS v _).mono ?_;rintro e w1 ⟨rfl,rfl⟩;cases hk:ba v
 ·have HX:Hid (Hn v p=false):=aa (ah (fun x=>by have h1:=aR (show decide _=true from x.1);have h2:=Gy (show decide (v=4\/v=5)=false from hk);exact h2 h1.1));clear hk;go_wp2;go_ret;exact⟨by rw[HX.o];rfl,S0.o.kept⟩
 by_cases h4:p.kind<4
 ·have HX:Hid (Hn v p=false):=aa (ah (fun x=>by have h1:=aR (show decide _=true from x.1);omega));clear hk;go_wp2;go_ret;exact⟨by rw[HX.o];rfl,S0.o.kept⟩
 have d4:decide (p.kind<(4:Int))=false:=ah h4
 by_cases h7:7<p.kind
 ·have HX:Hid (Hn v p=false):=aa (ah (fun x=>by have h1:=aR (show decide _=true from x.1);omega));clear hk h4;go_wp2;go_ret;exact⟨by rw[HX.o];rfl,S0.o.kept⟩
 have d7:decide ((7:Int)<p.kind)=false:=ah h7;have HKN:Hid (pe v p.kind=true):=aa (au ⟨aR (show decide (v=4\/v=5)=true from hk),by omega,by omega⟩);clear hk h4 h7;have k4:=S0.o.cell 0 rfl 4;have k17:=S0.o.cell 0 rfl 21;have k20:=S0.o.cell 0 rfl 24;rw[dj]at k4;rw[cn]at k17;rw[bR]at k20;have hbd:=fun W=>Mh p h W;generalize hW:w.alloc (.cells (pkC p h) PkT)=W at*;have S2:Hid (St w [(w.heap.size,p,h),(W.heap.size,qS p,vU h)] (W.alloc (.cells (pkC (qS p) (vU h)) PkT))):=aa (S0.o.push (Fh (S0.o.into 0 rfl)));have C2:Hid (Calls prog 243 #[pkV p h,pkV (qS p) (vU h)] (W.alloc (.cells (pkC (qS p) (vU h)) PkT)) fun e w'=>e= .returned (.bool (decide (p=qS p)))/\Below (W.alloc (.cells (pkC (qS p) (vU h)) PkT)).heap.size (W.alloc (.cells (pkC (qS p) (vU h)) PkT)) w'):=
  aa (GP p (qS p) h (vU h) _ (S2.o.into 0 rfl) (S2.o.into 1 rfl) OK.o.len (Dy OK.o.len))
 clear hW;have hl0:=S2.o.ld 0 rfl;have hl1:=S2.o.ld 1 rfl;have j17:=S2.o.cell 0 rfl 21;have j20:=S2.o.cell 0 rfl 24;rw[cn]at j17;rw[bR]at j20
 by_cases hv:v=4
 ·have e4:(v==4)=true:=aK.2 hv
  by_cases hc:p.code=0
  ·have ec:(p.code !=0)=false:=by simpa using hc
   by_cases hl:0<p.props.length
   ·have dl:decide ((0:Int)<(p.props.length:Int))=true:=au (by omega);have dl1:decide (0<p.props.length)=true:=au hl;have HO:Hid (v=4/\(p.code≠0\/0<p.props.length)):=aa ⟨hv,.inr hl⟩;clear hv hc hl
    go_wp2_with fail
    refine C2.o.mono ?_;rintro e w3 ⟨rfl,hb⟩;have S3:=aa (S2.o.below hb);clear hb hl0 hl1 k0 k4 k17 k20 j17 j20 hbd
    have m0:=S3.o.cell 0 rfl 0;have m4:=S3.o.cell 0 rfl 4;have m17:=S3.o.cell 0 rfl 21;rw[cI]at m0;rw[dj]at m4;rw[cn]at m17
    by_cases hsm:p=qS p
    rotate_left
    ·have HX:Hid (Hn v p=false):=aa (ah (fun x=>hsm x.2.1));rw[ah hsm];clear hsm;go_wp2;go_ret;exact⟨by rw[HX.o];rfl,S3.o.kept⟩
    rw[au hsm];have HSM:=aa hsm;clear hsm;have HX:Hid (Hn v p=false):=aa (ah (fun x=>x.2.2.1 HO.o));go_wp2;go_ret;exact⟨by rw[HX.o];rfl,S3.o.kept⟩
   ·have dl:decide ((0:Int)<(p.props.length:Int))=false:=ah (by omega);have dl1:decide (0<p.props.length)=false:=ah hl;have HO:Hid (¬(v=4/\(p.code≠0\/0<p.props.length))):=aa (fun x=>x.2.elim (fun y=>y hc) hl);clear hv hc hl
    go_wp2_with fail
    refine C2.o.mono ?_;rintro e w3 ⟨rfl,hb⟩;have S3:=aa (S2.o.below hb);clear hb hl0 hl1 k0 k4 k17 k20 j17 j20 hbd
    have m0:=S3.o.cell 0 rfl 0;have m4:=S3.o.cell 0 rfl 4;have m17:=S3.o.cell 0 rfl 21;rw[cI]at m0;rw[dj]at m4;rw[cn]at m17
    by_cases hsm:p=qS p
    rotate_left
    ·have HX:Hid (Hn v p=false):=aa (ah (fun x=>hsm x.2.1));rw[ah hsm];clear hsm;go_wp2;go_ret;exact⟨by rw[HX.o];rfl,S3.o.kept⟩
    rw[au hsm];have HSM:=aa hsm;clear hsm
    by_cases i1:1<=p.id
    rotate_left
    ·have HX:Hid (Hn v p=false):=aa (ah (fun x=>i1 x.2.2.2.1));have di1:decide ((1:Int)<=p.id)=false:=ah i1;clear i1;go_wp2;go_ret;exact⟨by rw[HX.o];rfl,S3.o.kept⟩
    by_cases i2:p.id<=65535
    rotate_left
    ·have HX:Hid (Hn v p=false):=aa (ah (fun x=>i2 x.2.2.2.2.1));have di1:decide ((1:Int)<=p.id)=true:=au i1;have di2:decide (p.id<=(65535:Int))=false:=ah i2;clear i1 i2;go_wp2;go_ret;exact⟨by rw[HX.o];rfl,S3.o.kept⟩
    have di1:decide ((1:Int)<=p.id)=true:=au i1;have di2:decide (p.id<=(65535:Int))=true:=au i2;have HI:=aa (And.intro i1 i2);clear i1 i2
    go_wp2_with fail
    refine(Ht p.kind p.code _).mono ?_;rintro e w4 ⟨rfl,hb⟩;have S4:=aa (S3.o.below hb);clear hb m0 m4 m17
    have HX:Hid (Hn v p=may p.kind p.code):=aa (by
     cases hm:may p.kind p.code
     ·exact ah (fun x=>by have:=x.2.2.2.2.2;rw[hm]at this;cases this)
     ·exact au ⟨HKN.o,HSM.o,HO.o,HI.o.1,HI.o.2,hm⟩)
    go_wp2;go_ret;exact⟨by rw[HX.o];rfl,S4.o.kept⟩
  ·have ec:(p.code !=0)=true:=aA.2 hc;have HO:Hid (v=4/\(p.code≠0\/0<p.props.length)):=aa ⟨hv,.inl hc⟩;clear hv hc
   go_wp2_with fail
   refine C2.o.mono ?_;rintro e w3 ⟨rfl,hb⟩;have S3:=aa (S2.o.below hb);clear hb hl0 hl1 k0 k4 k17 k20 j17 j20 hbd
   have m0:=S3.o.cell 0 rfl 0;have m4:=S3.o.cell 0 rfl 4;have m17:=S3.o.cell 0 rfl 21;rw[cI]at m0;rw[dj]at m4;rw[cn]at m17
   by_cases hsm:p=qS p
   rotate_left
   ·have HX:Hid (Hn v p=false):=aa (ah (fun x=>hsm x.2.1));rw[ah hsm];clear hsm;go_wp2;go_ret;exact⟨by rw[HX.o];rfl,S3.o.kept⟩
   rw[au hsm];have HSM:=aa hsm;clear hsm;have HX:Hid (Hn v p=false):=aa (ah (fun x=>x.2.2.1 HO.o));go_wp2;go_ret;exact⟨by rw[HX.o];rfl,S3.o.kept⟩
 ·have e4:(v==4)=false:=ar.2 hv;have HO:Hid (¬(v=4/\(p.code≠0\/0<p.props.length))):=aa (fun x=>hv x.1);clear hv
  go_wp2_with fail
  refine C2.o.mono ?_;rintro e w3 ⟨rfl,hb⟩;have S3:=aa (S2.o.below hb);clear hb hl0 hl1 k0 k4 k17 k20 j17 j20 hbd
  have m0:=S3.o.cell 0 rfl 0;have m4:=S3.o.cell 0 rfl 4;have m17:=S3.o.cell 0 rfl 21;rw[cI]at m0;rw[dj]at m4;rw[cn]at m17
  by_cases hsm:p=qS p
  rotate_left
  ·have HX:Hid (Hn v p=false):=aa (ah (fun x=>hsm x.2.1));rw[ah hsm];clear hsm;go_wp2;go_ret;exact⟨by rw[HX.o];rfl,S3.o.kept⟩
  rw[au hsm];have HSM:=aa hsm;clear hsm
  by_cases i1:1<=p.id
  rotate_left
  ·have HX:Hid (Hn v p=false):=aa (ah (fun x=>i1 x.2.2.2.1));have di1:decide ((1:Int)<=p.id)=false:=ah i1;clear i1;go_wp2;go_ret;exact⟨by rw[HX.o];rfl,S3.o.kept⟩
  by_cases i2:p.id<=65535
  rotate_left
  ·have HX:Hid (Hn v p=false):=aa (ah (fun x=>i2 x.2.2.2.2.1));have di1:decide ((1:Int)<=p.id)=true:=au i1;have di2:decide (p.id<=(65535:Int))=false:=ah i2;clear i1 i2;go_wp2;go_ret;exact⟨by rw[HX.o];rfl,S3.o.kept⟩
  have di1:decide ((1:Int)<=p.id)=true:=au i1;have di2:decide (p.id<=(65535:Int))=true:=au i2;have HI:=aa (And.intro i1 i2);clear i1 i2
  go_wp2_with fail
  refine(Ht p.kind p.code _).mono ?_;rintro e w4 ⟨rfl,hb⟩;have S4:=aa (S3.o.below hb);clear hb m0 m4 m17
  have HX:Hid (Hn v p=may p.kind p.code):=aa (by
   cases hm:may p.kind p.code
   ·exact ah (fun x=>by have:=x.2.2.2.2.2;rw[hm]at this;cases this)
   ·exact au ⟨HKN.o,HSM.o,HO.o,HI.o.1,HI.o.2,hm⟩)
  go_wp2;go_ret;exact⟨by rw[HX.o];rfl,S4.o.kept⟩
theorem IZ(v:Int)(p:Pk)(h:Hs)(w:World)(ip:PkIn w w.heap.size p h)(ok:PkOk p):
  Calls prog 183 #[.int .i64 v,pkV p h] w fun e w'=>e= .returned (.int .i64 (eS v p))/\Below w.heap.size w w':=by
 have OK:=aa ok;have S0:=aa ((St.start w).push ip);have HE:=aa (OS v p);clear ip ok;go_enter func183,ntmps183;have hl:=S0.o.ld 0 rfl
 go_wp2_with fail
 refine(JS v p h _ (S0.o.into 0 rfl) OK.o).mono ?_;rintro e w1 ⟨rfl,hb⟩;have S1:=aa (S0.o.below hb);clear hb hl
 cases hr:Hn v p
 ·have HX:Hid (eS v p=2):=aa (by rw[HE.o,ae (fun x=>by rw[hr]at x;cases x)]);clear hr;go_wp2;go_ret;exact⟨by rw[HX.o];rfl,S1.o.kept⟩
 have HX:Hid (eS v p=GI v p.kind p.props):=aa (by rw[HE.o,if_pos hr]);clear hr;have k0:=S1.o.cell 0 rfl 0;have k20:=S1.o.cell 0 rfl 24;rw[cI]at k0;rw[bR]at k20
 go_wp2_with fail
 refine(Gx v p.kind p.props _ rfl OK.o.props h.props.a h.props.c _ (S1.o.into 0 rfl).props OK.o.len.2.2.2 (S1.o.into 0 rfl).caps.2.2.2).mono ?_;rintro e w2 ⟨rfl,hb⟩;have S2:=aa (S1.o.below hb);clear hb k0 k20
 go_wp2;go_ret;exact⟨by rw[HX.o];rfl,S2.o.kept⟩
theorem JD(v k c:Int)(l:List Pr)(n:Nat)(hn:l.length=n)(hc:0<=c/\c<256)(hg:∀p∈l,ea p)(A:Option Addr)(q:Nat)(w:World)(h:Rd w w.heap.size 4 A n (prs l))(hl:n<=4611686018427387904)(hq:n<=q):
  Calls prog 256 #[.int .i64 v,.int .i64 k,.int .i64 c,.slice A n q] w fun e w'=>e= .returned (.string (Ia v k c l))/\Below w.heap.size w w':=by
 have H:=aa h;have HG:=aa hg;have HN:=aa hn;have HL:=aa hl;have HQ:=aa hq
 clear h hg hn hl hq
 by_cases h5:v=5
 rotate_left
 ·have e5:(v==5)=false:=ar.2 h5;have HX:Hid (Ia v k c l=⟨#[]⟩):=aa (ae h5);clear h5;go_enter func256,ntmps256;go_wp2;go_ret;exact⟨by rw[HX.o];rfl,aq _ _⟩
 have e5:(v==5)=true:=aK.2 h5;have HX:Hid (Ia v k c l=⟨(oG k c l).toArray⟩):=aa (if_pos h5);have HT:Hid (Hq v k l=⟨(aM k l).1.toArray⟩):=aa (ae (by omega));have HTL:Hid (oG k c l=if c=0/\l.length=0 then []else da c.toNat 1++(if l.length=0 then []else(aM k l).1)):=aa rfl;have hcb:c=((UInt8.ofNat c.toNat).toNat:Int):=by rw[UInt8.toNat_ofNat'];omega
 have HP:Hid (da c.toNat 1=[UInt8.ofNat c.toNat]):=aa (by
  show [UInt8.ofNat (c.toNat/ 2^ 0)]=_;rw[Nat.pow_zero,Nat.div_one])
 have hcv:=Lg (P:=prog) 80 9 5 underlying80 underlying5 underlying9;have hw:IntKind.u8.wrap c=c:=by rw[GM];omega
 clear h5;obtain⟨Y,hY⟩:∃Y,Ia v k c l=Y:=⟨_,rfl⟩;rw[hY]at HX⊢;clear hY
 by_cases h0:c=0/\n=0
 ·have HY:Hid (Y=⟨#[]⟩):=aa (by rw[HX.o,HTL.o,if_pos ⟨h0.1,by rw[HN.o];exact h0.2⟩]);have ec:(c !=0)=false:=by simpa using h0.1
  have dl:decide ((0:Int)<(n:Int))=false:=ah (by omega);have dl1:decide (0<n)=false:=ah (by omega);clear h0 hcb hc hw;go_enter func256,ntmps256;go_wp2;go_ret;exact⟨by rw[HY.o];rfl,aq _ _⟩
 obtain⟨b,hb⟩:∃b,UInt8.ofNat c.toNat=b:=⟨_,rfl⟩;rw[hb]at hcb HP;have HC0:=aa h0
 by_cases hn0:n=0
 ·have HY:Hid (Y=⟨#[b]⟩):=aa (by rw[HX.o,HTL.o,ae (by rw[HN.o];exact h0),if_pos (by rw[HN.o];exact hn0),HP.o];rfl);have ec:(c !=0)=true:=aA.2 (fun x=>h0 ⟨x,hn0⟩);have dl:decide ((0:Int)<(n:Int))=false:=ah (by omega);have dl1:decide (0<n)=false:=ah (by omega);rw[hcb]at ec hw⊢;clear h0 hn0 hcb hc hb;go_enter func256,ntmps256;go_wp2;go_ret;exact⟨by rw[HY.o];rfl,(aq _ _).alloc (ac _) _⟩
 have HY:Hid (Y=(⟨#[b]⟩:ByteArray)++Hq v k l):=aa (by
  rw[HX.o,HTL.o,ae (by rw[HN.o];exact h0),ae (by rw[HN.o];exact hn0),HP.o,HT.o];apply eX;rw[jo,fe,jo,jo])
 have HS:=aa (MZ v k l);have dl:decide ((0:Int)<(n:Int))=true:=au (by omega);have dl1:decide (0<n)=true:=au (by omega)
 by_cases hc0:c=0
 ·have ec:(c !=0)=false:=by simpa using hc0
  rw[hcb]at ec hw⊢;clear h0 hn0 hcb hc hb hc0;go_enter func256,ntmps256
  go_wp2_with fail
  refine(G5 v k l n HN.o HG.o A q _ ((H.o.alloc (ac _) _).wider (by simp)) HL.o HQ.o).mono ?_;rintro e w1 ⟨rfl,hb⟩;have HB:=aa (((aq w.heap.size w).alloc (ac _) (.cells #[.int .u8 (b.toNat:Int)] 5)).trans (hb.mono (by simp)));clear hb
  obtain⟨T,hT⟩:∃T,Hq v k l=T:=⟨_,rfl⟩;rw[hT]at HY HS⊢;have hs1:¬(9223372036854775807<1+T.size):=by have:=HS.o;omega
  clear hT;go_wp2;go_ret;exact⟨by rw[HY.o];rfl,HB.o⟩
 ·have ec:(c !=0)=true:=aA.2 hc0;rw[hcb]at ec hw⊢;clear h0 hn0 hcb hc hb hc0;go_enter func256,ntmps256
  go_wp2_with fail
  refine(G5 v k l n HN.o HG.o A q _ ((H.o.alloc (ac _) _).wider (by simp)) HL.o HQ.o).mono ?_;rintro e w1 ⟨rfl,hb⟩;have HB:=aa (((aq w.heap.size w).alloc (ac _) (.cells #[.int .u8 (b.toNat:Int)] 5)).trans (hb.mono (by simp)));clear hb
  obtain⟨T,hT⟩:∃T,Hq v k l=T:=⟨_,rfl⟩;rw[hT]at HY HS⊢;have hs1:¬(9223372036854775807<1+T.size):=by have:=HS.o;omega
  clear hT;go_wp2;go_ret;exact⟨by rw[HY.o];rfl,HB.o⟩
end
section
attribute [local go_sem ↓] bD bF bH bI bu
attribute [local go_sem] bc aD bh bg bK bJ bd aY be aO ax cI dC dB dt dj di dA dr dp dn bW co bO bZ bX cz cy cw cu ct cC cn bS bP bR
theorem NQ{v:Int}{p:Pk}(g:AckGood v p):Ia v p.kind p.code p.props=⟨(Fa p).toArray⟩:=by
 unfold Ia
 by_cases h5:v=5
 ·rw[if_pos h5];rfl
 ·obtain⟨e1,e2⟩:=g.old ((AI g.k).resolve_right h5);rw[ae h5,Fa,if_pos ⟨e1,by rw[e2];rfl⟩]
theorem KdB(v:Int)(p:Pk)(h:Hs)(w:World)(ip:PkIn w w.heap.size p h)(ok:PkOk p):
  Calls prog 188 #[.int .i64 v,pkV p h] w fun e w'=>e= .returned (.tuple #[.string ⟨(Ga v p).1.toArray⟩,.int .i64 (Ga v p).2])/\Below w.heap.size w w':=by
 have OK:=aa ok;have S0:=aa ((St.start w).push ip);have HE:Hid (Ga v p=if eS v p=0 then(da p.id.toNat 2++Fa p,0)else([],eS v p)):=aa rfl;clear ip ok;go_enter func188,ntmps188;have hl:=S0.o.ld 0 rfl
 go_wp2_with fail
 refine(IZ v p h _ (S0.o.into 0 rfl) OK.o).mono ?_;rintro e w1 ⟨rfl,hb⟩;have S1:=aa (S0.o.below hb);clear hb hl
 by_cases he:eS v p=0
 rotate_left
 ·have e0:(eS v p !=0)=true:=aA.2 he;have HX:Hid (Ga v p=([],eS v p)):=aa (by rw[HE.o,ae he]);clear he;go_wp2;go_ret2;exact⟨by rw[HX.o];rfl,S1.o.kept⟩
 have HX:Hid (Ga v p=(da p.id.toNat 2++Fa p,0)):=aa (by rw[HE.o,if_pos he]);have G:=aa (AJ he);rw[he];clear he;obtain⟨m,hm,hw1⟩:∃m:Nat,Hid (p.id.toNat=m)/\IntKind.u64.wrap p.id=(m:Int):=⟨_,aa rfl,by rw[iZ];have:=G.o.id1;have:=G.o.id2;omega⟩;have HM:Hid (m<65536):=aa (by have:=hm.out;have:=G.o.id2;omega);obtain⟨X,hX⟩:∃X:ByteArray,(⟨(da m 2).toArray⟩:ByteArray)=X:=⟨_,rfl⟩;have hXS:X.size=2:=by rw[<-hX,GW,fM]
 obtain⟨Z,hZ⟩:∃Z:ByteArray,Ia v p.kind p.code p.props=Z:=⟨_,rfl⟩;have hZS:Z.size<=131075005:=by rw[<-hZ];exact Mf _ _ _ _
 have HW:Hid (((⟨(Ga v p).1.toArray⟩:ByteArray),(Ga v p).2)=(X++Z,0)):=aa (by
  rw[HX.o,hm.out,<-hX,<-hZ,NQ G.o];simp only;rw[ap2])
 have q0:=jw (W:=w1) (fun x hx=>GV m 2 x (by have:=HM.o;omega) (by omega) (by omega));rw[show((2:Nat):Int)=2 from rfl]at q0;rw[hX]at q0;have q1:=jw (W:=w1) (fun x hx=>JD v p.kind p.code p.props _ rfl ⟨G.o.c1,G.o.c2⟩ OK.o.props h.props.a h.props.c x ((S1.o.below hx).into 0 rfl).props OK.o.len.2.2.2 (S1.o.into 0 rfl).caps.2.2.2);rw[hZ]at q1;have k0:=cell_regrown (show w1.cell? ⟨w.heap.size,0,none⟩=some (.int .i64 p.kind)from S1.o.cell 0 rfl 0);have k4:=cell_regrown (show w1.cell? ⟨w.heap.size,4,none⟩=some (.int .i64 p.id)from S1.o.cell 0 rfl 4);have k21:=cell_regrown (show w1.cell? ⟨w.heap.size,21,none⟩=some (.int .i64 p.code)from S1.o.cell 0 rfl 21);have k24:=cell_regrown (show w1.cell? ⟨w.heap.size,24,none⟩=some (.slice h.props.a p.props.length h.props.c)from S1.o.cell 0 rfl 24);have hs1:¬(9223372036854775807<X.size+Z.size):=by omega
 have HBQ:=aa (fun d os=>S1.o.kept.trans ((below_regrown w1 d os).mono S1.o.kept.size));clear hX hZ hXS hZS
 go_wp2_with fail
 refine wp_region_quiet_below (by kernel_rfl) (by kernel_rfl) ?_
 repeat (go_big_quiet_step (first| with_reducible exact q0 _ _| with_reducible exact q1 _ _))
 refine kE ?_;intro _ hw';obtain⟨⟨dq,osq⟩,hw''⟩:=hw';subst hw'';have KF:=aa (HBQ.o dq osq);clear q0 q1 k0 k4 k21 k24 HBQ;generalize Sort.grow (redrawn _ dq) osq=wq at*;go_wp2;go_ret2;refine⟨?_,KF.o⟩;have hx1:=congrArg Prod.fst HW.o;have hx2:=congrArg Prod.snd HW.o;simp only at hx1 hx2;rw[hx1,hx2];rfl
structure DS (w:World) (g:Nat) (p:Pk) (h:Hs) (t:ByteArray) (a:Nat) (e:Int) (x:World):Prop where
 mods:Mods (fun z=>z=g) w x
 pk:Bk x w.heap.size PkT (pkC p h)
 res:Bk x (w.heap.size+1) PkT (pkC pk0 hs0)
 cur:IC x g t a e
 lt:g<w.heap.size
section
variable {w x y:World} {g a:Nat} {p:Pk} {h:Hs} {t:ByteArray} {e:Int}
theorem DS.below(d:DS w g p h t a e x)(hb:Below x.heap.size x y):DS w g p h t a e y:=
 ⟨d.mods.trans (Mods.of_below hb),d.pk.below hb d.pk.lt,d.res.below hb d.res.lt,d.cur.below hb,d.lt⟩
theorem DS.turn(d:DS w g p h t a e x){e':Int}(hc:IC y g t a e')(hm:x.grownBy y (some g)):DS w g p h t a e' y:=
 ⟨d.mods.trans (Mods.of_grown hm rfl),d.pk.mods (S:=fun z=>z=g) (Mods.of_grown hm rfl) (by have:=d.lt;omega),d.res.mods (S:=fun z=>z=g) (Mods.of_grown hm rfl) (by have:=d.lt;omega),hc,d.lt⟩
theorem Mods.grown{w x:World}{g:Nat}(h:Mods (fun z=>z=g) w x):w.grownBy x (some g):=⟨h.os,h.tape,h.output,h.size,fun i hi hn=>h.block i hi (fun e=>hn (by rw[e]))⟩
theorem DS.put(d:DS w g p h t a e x)(q:Pk)(k:Hs):Mods (fun z=>z=g) w (dE x (w.heap.size+1) q k):=by
 have h1:Mods (fun z=>z=g\/z=w.heap.size+1) w (dE x (w.heap.size+1) q k):=(d.mods.mono (fun _ _ hz=>.inl hz)).trans (Mods.of_grown (cJ x (w.heap.size+1) q k) (.inr rfl));exact h1.mono (fun i hi hz=>hz.elim id (fun e=>by omega))
end
end
end Go.Proofs.YtbdgkkmbnahgiaaGreatDoor
