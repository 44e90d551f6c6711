/- Parts: OrdG, MRft. -/
import Derived.Below
import Derived.Test.YtooikoiladioeaaGreatDoorMqG0Lex
set_option maxRecDepth 10000
set_option maxHeartbeats 8000000
namespace Go.Proofs.YtooikoiladioeaaGreatDoor
open Go Go.RowKit
open Go.Proofs.Tryz
inductive Kd where
 | fix (v:Value)
 | rel (R:Value->World->Prop)
def Kd.val:Kd->Value->Value
 | .fix v,_=>v
 | .rel _,u=>u
def Kd.fits:Kd->Value->World->Prop
 | .fix v,u,_=>u=v
 | .rel R,u,w=>R u w
def Kd.holds(k:Kd)(u:Value)(w:World):Prop:=k.fits (k.val u) w
def Kd.stable(k:Kd):Prop:=∀u x y,k.fits u x->Below x.heap.size x y->k.fits u y
theorem Kd.val_of{k:Kd}{u:Value}{w:World}(h:k.fits u w):k.val u=u:=by
 cases k with
 | fix v=>exact h.symm
 | rel R=>rfl
theorem Wo(v:Value):(Kd.fix v).stable:=fun _ _ _ h _=>h
def Ww(P:Program)(Post:Value->World->Prop):Result Next->Prop
 | .ok (.value v) w'=>Post v w'
 | .ok .skip w'=>Post undef w'
 | .ok (.enter f args) w'=>Calls P f args w' fun e w''=>∃v,e= .returned v/\Post v w''
 | _=>False
def Wn(o:Oper)(j:Nat):Bool:=o.after.any fun e=>Region.binds .any e&&e.on==j
def Ws(ops:Array Oper)(i:Nat)(o oj:Oper):Bool:=
 (match o.dst with| some d=>oj.dst !=some d&&(!(oj.looksAt ops).contains d || Wn oj i) | none=>true)&&
 (match oj.dst with| some d=>!(o.looksAt ops).contains d| none=>true)
def Wx(ops:Array Oper):Nat->List Oper->Bool
 | _,[]=>true
 | i,o :: l=>(o.after.all fun e=>!Region.binds .any e || decide (e.on<i))&&((match o.dst with| some d=>!(o.looksAt ops).contains d| none=>true)&&((l.all fun oj=>Ws ops i o oj)&&Wx ops (i+1) l))
section
variable {P:Program} {ops:Array Oper} {Q:Exit->Act->World->Prop}
structure ChkG (ops:Array Oper):Prop where
 up:∀(i:Nat) (o:Oper),ops[i]? =some o->∀e∈o.after,Region.binds .any e=true->e.on<i
 one:∀(i j:Nat) (o oj:Oper) (d:Tmp),ops[i]? =some o->ops[j]? =some oj->o.dst=some d->oj.dst=some d->i=j
 look:∀(i j:Nat) (o oj:Oper) (d:Tmp),ops[i]? =some o->ops[j]? =some oj->oj.dst=some d->d∈o.looksAt ops->Wn o j=true
theorem Wp{i:Nat}:∀ {l:List Oper} {k:Nat},Wx ops k l=true->∀a b o oj,a<b->l[a]? =some o->l[b]? =some oj->Ws ops (k+a) o oj=true
 | [],_,_,a,_,_,_,_,h,_=>by simp at h
 | x :: l,k,hB,a,b,o,oj,hab,ha,hb=>by
   simp only[Wx,eh]at hB;obtain⟨-,-,h1,h2⟩:=hB;obtain⟨b,rfl⟩:∃c,b=c+1:=⟨b- 1,by omega⟩;rw[aE]at hb;cases a with
   | zero=>
     rw[aB]at ha;cases ha;exact dL.1 h1 oj (iL hb)
   | succ a=>
     rw[aE]at ha;have:=Wp (i:=i) h2 a b o oj (by omega) ha hb;rwa[Nat.add_assoc,Nat.add_comm 1 a]at this
theorem Wr:∀ {l:List Oper} {k:Nat},Wx ops k l=true->∀a o,l[a]? =some o->(∀e∈o.after,Region.binds .any e=true->e.on<k+a)/\(∀d,o.dst=some d->d ∉ o.looksAt ops)
 | [],_,_,a,_,h=>by simp at h
 | x :: l,k,hB,a,o,ha=>by
   simp only[Wx,eh]at hB;obtain⟨h1,h2,h3,h4⟩:=hB;cases a with
   | zero=>
     rw[aB]at ha;cases ha;refine⟨fun e f b=>?_,fun d c g=>?_⟩
     ·have:=Array.all_eq_true_iff_forall_mem.1 h1 e f;rw[b]at this
      simpa using this
     ·rw[c]at h2;simp only[Bool.not_eq_true',List.contains_eq_mem,Ip]at h2;exact h2 g
   | succ a=>
     rw[aE]at ha;have:=Wr h4 a o ha;rwa[Nat.add_assoc,Nat.add_comm 1 a]at this
theorem WH(h:Wx ops 0 ops.toList=true):ChkG ops:=by
 have b:∀i,ops.toList[i]? =ops[i]? :=fun i=>Array.getElem?_toList;refine⟨fun i o f e p n=>?_,fun i j o k d f c g l=>?_,fun i j o k d f c g m=>?_⟩
 ·have:=(Wr h i o (by rw[b];exact f)).1 e p n;omega
 ·rcases Nat.lt_trichotomy i j with a| a| a
  ·have:=Wp (i:=0) h i j o k a (by rw[b];exact f) (by rw[b];exact c);simp[Ws,g,l]at this
  ·exact a
  ·have:=Wp (i:=0) h j i k o a (by rw[b];exact c) (by rw[b];exact f);simp[Ws,g,l]at this
 ·rcases Nat.lt_trichotomy i j with a| a| a
  ·have:=Wp (i:=0) h i j o k a (by rw[b];exact f) (by rw[b];exact c);simp only[Ws,g,eh,Bool.not_eq_true',List.contains_eq_mem,Ip]at this;exact absurd m this.2
  ·subst a;obtain rfl:o=k:=Option.some.inj (f.symm.trans c);exact absurd m ((Wr h i o (by rw[b];exact f)).2 d g)
  ·have:=Wp (i:=0) h j i k o a (by rw[b];exact c) (by rw[b];exact f);simp only[Ws,g,eh,Bool.or_eq_true,Bool.not_eq_true',List.contains_eq_mem,Ip,bV]at this;exact this.1.2.resolve_left (fun x=>x m)
structure ActIs (ops:Array Oper) (a0:Act) (f:Nat->Value) (L:Nat->Prop) (a:Act):Prop where
 size:a.tmps.size=a0.tmps.size
 defs:a.defers=a0.defers
 got:∀(j:Nat) (o:Oper) (d:Tmp),ops[j]? =some o->o.dst=some d->L j->a.tmps[d]? =if d<a0.tmps.size then some (f j)else none
 old:∀d:Tmp,(∀(j:Nat) (o:Oper),ops[j]? =some o->o.dst=some d->¬L j)->a.tmps[d]? =a0.tmps[d]?
theorem ActIs.eq{a0 a b:Act}{f:Nat->Value}{L:Nat->Prop}(ha:ActIs ops a0 f L a)(hb:ActIs ops a0 f L b):a=b:=by
 obtain⟨m,k⟩:=a;obtain⟨n,l⟩:=b;obtain rfl:k=l:=ha.defs.trans hb.defs.symm
 congr 1
 apply Il;intro d
 by_cases h:∃j:Nat,∃o:Oper,ops[j]? =some o/\o.dst=some d/\L j
 ·obtain⟨j,o,c,e,g⟩:=h;exact(ha.got j o d c e g).trans (hb.got j o d c e g).symm
 ·have i:∀j (o:Oper),ops[j]? =some o->o.dst=some d->¬L j:=fun j o c e g=>h ⟨j,o,c,e,g⟩;exact(ha.old d i).trans (hb.old d i).symm
theorem ActIs.congr{a0 a:Act}{f g:Nat->Value}{L L':Nat->Prop}(ha:ActIs ops a0 f L a)(hL:∀j,L j↔L' j)(hf:∀j,L j->f j=g j):ActIs ops a0 g L' a:=
 ⟨ha.size,ha.defs,fun j o d c e b=>by rw[ha.got j o d c e ((hL j).2 b),hf j ((hL j).2 b)],fun d h=>ha.old d fun j o c e b=>h j o c e ((hL j).1 b)⟩
theorem ActIs.put{a0 a:Act}{f:Nat->Value}{L:Nat->Prop}(hc:ChkG ops)(ha:ActIs ops a0 f L a){i:Nat}{o:Oper}(ho:ops[i]? =some o)(hi:¬L i):ActIs ops a0 f (fun j=>L j\/j=i) (a.put o.dst (f i)):=by
 unfold Act.put;cases m:o.dst with
 | none=>
   refine⟨ha.size,ha.defs,fun j l d b c g=>?_,fun d h=>ha.old d fun j l b c g=>h j l b c (.inl g)⟩;rcases g with g| rfl
   ·exact ha.got j l d b c g
   ·rw[ho]at b;cases b;rw[m]at c;cases c
 | some e=>
   refine⟨by simp[ha.size],ha.defs,fun j l d b c g=>?_,fun d h=>?_⟩
   ·show(a.tmps.setIfInBounds e (f i))[d]? =_
    by_cases k:e=d
    ·subst k;obtain rfl:=hc.one i j o l e ho b m c;rw[<-ha.size];simp[Array.getElem?_setIfInBounds]
    ·rw[eK k];rcases g with g| rfl
     ·exact ha.got j l d b c g
     ·rw[ho]at b;cases b;rw[m]at c;exact absurd (Option.some.inj c) k
   ·show(a.tmps.setIfInBounds e (f i))[d]? =_;have k:e≠d:=fun x=>h i o ho (by rw[m,x]) (.inr rfl);rw[eK k];exact ha.old d fun j l b c g=>h j l b c (.inl g)
theorem ActIs.slot{a0 a b:Act}{f:Nat->Value}{L L':Nat->Prop}(hc:ChkG ops)(ha:ActIs ops a0 f L a)(hb:ActIs ops a0 f L' b){i:Nat}{o:Oper}(ho:ops[i]? =some o)
  (h1:∀j,Wn o j=true->L j/\L' j){t:Tmp}(ht:t∈o.looksAt ops):a.tmps[t]? =b.tmps[t]? :=by
 by_cases h:∃j:Nat,∃c:Oper,ops[j]? =some c/\c.dst=some t
 ·obtain⟨j,c,d,e⟩:=h;have g:=h1 j (hc.look i j o c t ho d e ht);exact(ha.got j c t d e g.1).trans (hb.got j c t d e g.2).symm
 ·exact(ha.old t fun j c d e _=>h ⟨j,c,d,e⟩).trans (hb.old t fun j c d e _=>h ⟨j,c,d,e⟩).symm
theorem ActIs.exec{a0 a b:Act}{f:Nat->Value}{L L':Nat->Prop}(hc:ChkG ops)(ha:ActIs ops a0 f L a)(hb:ActIs ops a0 f L' b){i:Nat}{o:Oper}(ho:ops[i]? =some o)(hs:∀cs b,o.op≠ .select cs b)
  (h1:∀j,Wn o j=true->L j/\L' j):execOp a.eval o=execOp b.eval o/\Region.wanted o (yielded ops a.tmps)=Region.wanted o (yielded ops b.tmps):=by
 refine⟨execOp_congr o hs fun x e=>?_,?_⟩
 ·cases x with
  | tmp t=>
    have c:t∈o.looksAt ops:=List.mem_append_left _ (List.mem_filterMap.2 ⟨.tmp t,by simpa using e,rfl⟩);have:=ha.slot hc hb ho h1 c;simp only[Act.eval,Jf,this]
  | _=>rfl
 ·unfold Region.wanted;cases d:o.guard with
  | none=>rfl
  | some gw=>
    obtain⟨g,k⟩:=gw;have h:yielded ops a.tmps g=yielded ops b.tmps g:=by
     unfold yielded;cases c:(ops[g]?).bind (·.dst)with
     | none=>rfl
     | some t=>
       have:=ha.slot hc hb ho h1 (t:=t) (by simp[Oper.looksAt,d,c]);simp only[Option.bind_some,this]
    simp only[h]
def Wu(P:Program)(ops:Array Oper)(w0:World)(H:Nat->World->Prop)(o:Oper)(a:Act)(kd:Kd):Prop:=
 kd.stable/\∀x,Below w0.heap.size w0 x->(∀j,Wn o j=true->H j x)->if Region.wanted o (yielded ops a.tmps)=true then Ww P (fun u y=>kd.fits u y/\Below x.heap.size x y) ((execOp a.eval o).run P x)else kd.fits undef x
def wpG(P:Program)(ops:Array Oper)(w0:World)(vs:Nat->Value)(H:Nat->World->Prop)(Qf:Act->Prop):List Kd->Nat->List Oper->Act->Prop
 | kd :: ks,k,o :: l,a=>Wu P ops w0 H o a kd/\wpG P ops w0 vs H Qf ks (k+1) l (a.put o.dst (kd.val (vs k)))
 | [],_,[],a=>Qf a
 | _,_,_,_=>False
theorem WC{w0:World}{vs:Nat->Value}{H:Nat->World->Prop}{Qf:Act->Prop}{a0:Act}{K:Nat->Kd}(hc:ChkG ops):∀(ks:List Kd) (k:Nat) (l:List Oper) (a:Act),wpG P ops w0 vs H Qf ks k l a->(∀j,l[j]? =ops[k+j]?)->(∀j,j<ks.length->ks[j]? =some (K (k+j)))->
  ActIs ops a0 (fun j=>(K j).val (vs j)) (fun j=>j<k) a->
  (∀i o,k<=i->ops[i]? =some o->∃b,ActIs ops a0 (fun j=>(K j).val (vs j)) (fun j=>j<i) b/\Wu P ops w0 H o b (K i))/\∃b,ActIs ops a0 (fun j=>(K j).val (vs j)) (fun j=>j<ops.size) b/\Qf b
 | kd :: ks,k,o :: l,a,h,hl,hK,hA=>by
   obtain⟨h1,h2⟩:=h;have c:ops[k]? =some o:=(hl 0).symm;have q:kd=K k:=by
    have:=hK 0 (by simp)
    simpa using this
   subst q;obtain⟨r,s⟩:=WC hc ks (k+1) l _ h2 (fun j=>by have:=hl (j+1);rw[aE]at this;rw[this];congr 1;omega) (fun j p=>by have:=hK (j+1) (by simpa using p);rw[aE]at this;rw[this];congr 2;omega)
    ((hA.put hc c (WQ k)).congr (fun j=>by omega) (fun _ _=>rfl))
   refine⟨fun i t g e=>?_,s⟩;rcases Nat.eq_or_lt_of_le g with rfl| m
   ·rw[c]at e;cases e;exact⟨a,hA,h1⟩
   ·exact r i t m e
 | [],k,[],a,h,hl,_,hA=>by
   have v:ops.size<=k:=by
    have:=hl 0;rw[List.getElem?_nil,jV]at this;exact Array.getElem?_eq_none_iff.1 this.symm
   have f:∀j o,ops[j]? =some o->j<ops.size:=fun j o c=>(cZ.1 c).1;refine⟨fun i o g c=>absurd (f i o c) (by omega),a,⟨hA.size,hA.defs,fun j o d h1 h2 u=>hA.got j o d h1 h2 (by omega),fun d n=>hA.old d fun j o h1 h2 _=>n j o h1 h2 (f j o h1)⟩,h⟩
 | [],_,_ :: _,_,h,_,_,_=>by cases h
 | _ :: _,_,[],_,h,_,_,_=>by cases h
theorem WG{p q:Nat->Bool}(h:∀x,q x=true->p x=true):∀l:List Nat,(l.filter q).length<=(l.filter p).length
 | []=>ac _
 | x :: l=>by
   have:=WG h l
   by_cases a:q x=true
   ·rw[List.filter_cons_of_pos a,List.filter_cons_of_pos (h x a)]
    simpa using this
   ·rw[List.filter_cons_of_neg a]
    by_cases b:p x=true
    ·rw[List.filter_cons_of_pos b,bM];omega
    ·rw[List.filter_cons_of_neg b];exact this
theorem WE{p q:Nat->Bool}(h:∀x,q x=true->p x=true){i:Nat}(hp:p i=true)(hq:¬q i=true):∀l:List Nat,i∈l->(l.filter q).length<(l.filter p).length
 | [],h=>by cases h
 | x :: l,hm=>by
   have hle:=WG h l
   by_cases c:x=i
   ·subst c;rw[List.filter_cons_of_pos hp,List.filter_cons_of_neg hq,bM];omega
   ·have:=WE h hp hq l ((ie.1 hm).resolve_left (fun e=>c e.symm))
    by_cases a:q x=true
    ·rw[List.filter_cons_of_pos a,List.filter_cons_of_pos (h x a)]
     simpa using this
    ·rw[List.filter_cons_of_neg a]
     by_cases b:p x=true
     ·rw[List.filter_cons_of_pos b,bM];omega
     ·rw[List.filter_cons_of_neg b];exact this
theorem Wt{listed:Array Bool}{j:Nat}(hj:j<listed.size)(h:listed.getD j true=false):listed.getD j false=false:=by
 simp[hj]at h⊢;exact h
theorem WI{w0:World}{a0:Act}{K:Nat->Kd}(hc:ChkG ops)(hs:Region.noSelect ops=true)(hst:∀j,(K j).stable)
  (hcl:∀vs:Nat->Value,(∀i o,ops[i]? =some o->∃b,ActIs ops a0 (fun j=>(K j).val (vs j)) (fun j=>j<i) b/\Wu P ops w0 (fun j x=>(K j).holds (vs j) x) o b (K i))/\
    ∃b,ActIs ops a0 (fun j=>(K j).val (vs j)) (fun j=>j<ops.size) b/\∀x,Below w0.heap.size w0 x->(∀j,j<ops.size->(K j).holds (vs j) x)->Q .normal b x):
  ∀(fuel:Nat) (listed:Array Bool) (a:Act) (w:World) (vs:Nat->Value),listed.size=ops.size->((List.range ops.size).filter fun i=>!listed.getD i true).length<=fuel->
   ActIs ops a0 (fun j=>(K j).val (vs j)) (fun j=>listed.getD j false=true) a->Below w0.heap.size w0 w->(∀j,listed.getD j false=true->(K j).holds (vs j) w)->wpAny P .any ops Q fuel listed a w:=by
 have D:∀(listed:Array Bool) (a:Act) (w:World) (vs:Nat->Value),listed.size=ops.size->ActIs ops a0 (fun j=>(K j).val (vs j)) (fun j=>listed.getD j false=true) a->Below w0.heap.size w0 w->(∀j,listed.getD j false=true->(K j).holds (vs j) w)->(∀j,j<ops.size->listed.getD j false=true)->Q .normal a w:=by
  intro listed a w vs J v t z l;obtain⟨-,b,s,hq⟩:=hcl vs;have:a=b:=(v.congr (L':=fun j=>j<ops.size) (fun j=>⟨fun h=>by
   rcases fj j listed.size with V| V
   ·omega
   ·simp[Array.getElem?_eq_none V]at h,l j⟩) (fun _ _=>rfl)).eq s
  rw[this];exact hq w t fun j d=>z j (l j d)
 intro fuel
 induction fuel with
 | zero=>
   intro listed a w vs J W v t z;have O:=aF (Nat.le_zero.1 W);have l:∀j,j<ops.size->listed.getD j false=true:=fun j d=>by
    have:=List.filter_eq_nil_iff.1 O j (gn.2 d);simp[show j<listed.size by omega]at this⊢;exact this
   refine⟨List.eq_nil_iff_forall_not_mem.2 fun j d=>?_,D listed a w vs J v t z l⟩;obtain⟨R,o,m,-⟩:=mem_ready.1 d;have F:j<ops.size:=(cZ.1 m).1;have:=l j F;rw[Wt (by omega) R]at this;cases this
 | succ fuel ih=>
   intro listed a w vs J W v t z;refine⟨fun O=>D listed a w vs J v t z fun j d=>?_,fun i hi=>?_⟩
   ·induction j using Nat.strongRecOn with
    | ind j ihj=>
      cases X:listed.getD j false with
      | true=>rfl
      | false=>
        exfalso;obtain⟨o,m⟩:∃o,ops[j]? =some o:=⟨ops[j],eL d⟩;have:j∈Region.ready .any ops listed:=mem_ready.2 ⟨by
         simp[show j<listed.size by omega]at X⊢;exact X,o,m,fun e B s=>by
         have:=hc.up j o m e B s;exact ihj e.on this (by omega)⟩
        rw[O]at this;cases this
   ·obtain⟨N,o,m,l⟩:=mem_ready.1 hi;have F:i<ops.size:=(cZ.1 m).1;have A:=Wt (by omega) N;have C:∀j,Wn o j=true->listed.getD j false=true/\j<i:=fun j d=>by
     obtain⟨e,B,s⟩:=Array.any_eq_true'.1 d;simp only[eh,aK]at s;rw[<-s.2];exact⟨l e B s.1,hc.up i o m e B s.1⟩
    obtain⟨b,s,S⟩:=(hcl vs).1 i o m;obtain⟨B,hw⟩:=v.exec hc s m (fun cs b=>Region.noSelect_spec hs i o cs b m) C;have c:=S.2 w t fun j d=>z j (C j d).1;have next:∀u y,(K i).fits u y->Below w.heap.size w y->wpAny P .any ops Q fuel (listed.setIfInBounds i true) (a.put o.dst u) y:=by
     intro u y U Y;have H:i<listed.size:=by omega
     have G:∀j,(listed.setIfInBounds i true).getD j false=true↔(listed.getD j false=true\/j=i):=fun j=>by
      by_cases E:i=j
      ·subst E;simp[H]
      ·rw[getD_set_ne false E];exact⟨.inl,fun h=>h.resolve_right fun e=>E e.symm⟩
     have L:=(v.congr (g:=fun j=>(K j).val (if j=i then u else vs j)) (fun _=>Iff.rfl) (fun j d=>by
      rw[ae (fun e=>by rw[e,A]at d;cases d)])).put hc m (by rw[A];decide)
     rw[if_pos rfl,Kd.val_of U]at L;refine ih (listed.setIfInBounds i true) (a.put o.dst u) y (fun j=>if j=i then u else vs j) (by rw[Array.size_setIfInBounds];exact J) ?_ (L.congr (fun j=>(G j).symm) (fun _ _=>rfl)) (Yf t Y) fun j d=>?_
     ·have:=WE (p:=fun k=>!listed.getD k true) (q:=fun k=>!(listed.setIfInBounds i true).getD k true) (fun k T=>by
       by_cases M:i=k
       ·subst M;simp[H]at T
       ·rw[getD_set_ne true M]at T;exact T) (i:=i) (by simp[N]) (by simp[H]) (List.range ops.size) (gn.2 F)
      omega
     ·rcases(G j).1 d with h| rfl
      ·rw[ae (fun e=>by rw[e,A]at h;cases h)];exact hst j _ w y (z j h) Y
      ·rw[if_pos rfl];unfold Kd.holds;rw[Kd.val_of U];exact U
    unfold wpOp;simp only[m];rw[hw];split
    ·rename_i I;rw[if_pos I]at c;refine .inl ?_;unfold Oper.wp;rw[B];generalize (execOp b.eval o).run P w=r at*;cases r with
     | ok n w'=>
       cases n<;>simp only[Ww]at c<;>simp only[Oper.upon]
       case value u=>exact next u w' c.1 c.2
       case skip=>exact next undef w' c.1 c.2
       case enter f args=>
        refine Calls.mono c fun e Z hp=>?_;obtain⟨u,rfl,R,h2⟩:=hp;exact next u Z R h2
     | halt x w'=>exact absurd c (by simp[Ww])
    ·rename_i I;rw[ae I]at c;exact next undef w c (aq _ _)
theorem Wq{id:Nat}{a:Act}{w:World}(ks:List Kd)(hm:P.follows .mixedOrders=true)
  (h:∀vs:Nat->Value,wpG P ops w vs (fun j x=>(ks.getD j (.fix undef)).holds (vs j) x) (fun a'=>∀x,Below w.heap.size w x->(∀j,j<ops.size->(ks.getD j (.fix undef)).holds (vs j) x)->Q .normal a' x) ks 0 ops.toList a)
  (hB:(Region.noSelect ops&&(ks.length==ops.size&&Wx ops 0 ops.toList))=true):(Code.region id ops true).wp P Q a w:=by
 simp only[eh,aK]at hB;obtain⟨n,s,p⟩:=hB;have m:=WH p;have k:∀f:Nat->Value,ActIs ops a f (fun j=>j<0) a:=fun f=>⟨rfl,rfl,fun j o d _ _ h=>absurd h (Nat.not_lt_zero _),fun d _=>rfl⟩;have e:=fun vs:Nat->Value=>WC (K:=fun j=>ks.getD j (.fix undef)) m ks 0 ops.toList a (h vs) (fun j=>by rw[bV];exact Array.getElem?_toList) (fun j c=>by
  rw[bV,List.getElem?_eq_getElem c];simp[List.getD_eq_getElem?_getD,List.getElem?_eq_getElem c]) (k _)
 have g:∀j,(Array.replicate ops.size false).getD j false=false:=fun j=>by
  rcases fj j ops.size with l| l<;>simp[l]
 refine wp_region_any hm (WI (w0:=w) (a0:=a) (K:=fun j=>ks.getD j (.fix undef)) m n (fun j=>?_) (fun vs=>⟨fun i o r=>(e vs).1 i o (ag _) r,(e vs).2⟩) ops.size _ a _ (fun _=>undef) (by simp) ?_ ((k _).congr (fun j=>by rw[g];simp) (fun _ _=>rfl)) ?_ (fun j c=>?_))
 ·rcases fj j ops.size with c| c
  ·obtain⟨b,-,q⟩:=(e fun _=>undef).1 j ops[j] (ag _) (eL c);exact q.1
  ·show(ks.getD j (.fix undef)).stable;rw[List.getD_eq_getElem?_getD,aG (by omega)];exact Wo undef
 ·refine aC (WJ _ _) ?_;rw[List.length_range];exact ac _
 ·exact⟨rfl,rfl,rfl,ac _,fun _ _=>rfl⟩
 ·rw[g]at c;cases c
theorem Wk{w0:World}{vs:Nat->Value}{H:Nat->World->Prop}{Qf:Act->Prop}{ks:List Kd}{k:Nat}{o:Oper}{l:List Oper}{a:Act}{v:Value}
  (hy:YieldsIf P ops (fun x=>Below w0.heap.size w0 x) o v a)(h:wpG P ops w0 vs H Qf ks (k+1) l (a.put o.dst v)):wpG P ops w0 vs H Qf (.fix v :: ks) k (o :: l) a:=by
 refine⟨⟨Wo v,fun x d _=>?_⟩,h⟩;rcases hy with ⟨b,c⟩ | ⟨b,c⟩
 ·rw[if_pos b,c x d];exact⟨rfl,aq _ _⟩
 ·rw[ae (by rw[b];decide)];exact c.symm
theorem Wm{w0:World}{vs:Nat->Value}{H:Nat->World->Prop}{Qf:Act->Prop}{ks:List Kd}{k:Nat}{o:Oper}{l:List Oper}{a:Act}{v:Value}{f:FuncId}{args:Array Value}
  (hc:∀x,Below w0.heap.size w0 x->(∀j,Wn o j=true->H j x)->Calls P f args x fun e y=>e= .returned v/\Below x.heap.size x y)(hw:Region.wanted o (yielded ops a.tmps)=true)
  (hr:∀x,Below w0.heap.size w0 x->(execOp a.eval o).run P x= .ok (.enter f args) x)(h:wpG P ops w0 vs H Qf ks (k+1) l (a.put o.dst v)):wpG P ops w0 vs H Qf (.fix v :: ks) k (o :: l) a:=
 ⟨⟨Wo v,fun x c d=>by
   rw[if_pos hw,hr x c];exact(hc x c d).mono fun e y b=>⟨v,b.1,rfl,b.2⟩⟩,h⟩
theorem Wy{w0:World}{vs:Nat->Value}{H:Nat->World->Prop}{Qf:Act->Prop}{ks:List Kd}{k:Nat}{o:Oper}{l:List Oper}{a:Act}(R:Value->World->Prop)(hR:(Kd.rel R).stable)
  (hw:Region.wanted o (yielded ops a.tmps)=true)(hy:∀x,Below w0.heap.size w0 x->(∀j,Wn o j=true->H j x)->∃u y,(execOp a.eval o).run P x= .ok (.value u) y/\R u y/\Below x.heap.size x y)(h:wpG P ops w0 vs H Qf ks (k+1) l (a.put o.dst (vs k))):wpG P ops w0 vs H Qf (.rel R :: ks) k (o :: l) a:=
 ⟨⟨hR,fun x e d=>by
   obtain⟨u,y,b,c⟩:=hy x e d;rw[if_pos hw,b];exact c⟩,h⟩
theorem WD{w0:World}{vs:Nat->Value}{H:Nat->World->Prop}{Qf:Act->Prop}{ks:List Kd}{k:Nat}{o:Oper}{l:List Oper}{a:Act}{v:Value}
  (hw:Region.wanted o (yielded ops a.tmps)=true)(hy:∀x,Below w0.heap.size w0 x->(∀j,Wn o j=true->H j x)->(execOp a.eval o).run P x= .ok (.value v) x)(h:wpG P ops w0 vs H Qf ks (k+1) l (a.put o.dst v)):wpG P ops w0 vs H Qf (.fix v :: ks) k (o :: l) a:=
 ⟨⟨Wo v,fun x c b=>by
   rw[if_pos hw,hy x c b];exact⟨rfl,aq _ _⟩⟩,h⟩
theorem Wz{w0:World}{vs:Nat->Value}{H:Nat->World->Prop}{Qf:Act->Prop}{k:Nat}{a:Act}(h:Qf a):wpG P ops w0 vs H Qf [] k [] a:=h
end
end Go.Proofs.YtooikoiladioeaaGreatDoor
namespace Go.Proofs.YtooikoiladioeaaGreatDoor
open Go.RowKit Go.Proofs.Tryz
def Hn(v:Int)(p:Pk):Bool:=decide (pe v p.kind=true/\p=qS p/\¬(v=4/\(p.code≠0\/0<p.props.length))/\1<=p.id/\p.id<=65535/\may p.kind p.code=true)
theorem Ir{v k:Int}{l:List Pr}(h:v=4->l.length=0):GI v k l=(aM k l).2:=by
 unfold GI
 by_cases a:v=4
 ·have b:=h a;have c:l=[]:=aF b;subst c;rw[if_pos a,ae (by simp),vL]
 ·rw[ae a]
theorem OS(v:Int)(p:Pk):eS v p=if Hn v p=true then GI v p.kind p.props else 2:=by
 by_cases h:Hn v p=true
 ·obtain⟨g,i,d,m,n,j⟩:=aR (show decide _=true from h);have f:v=4->p.props.length=0:=fun k=>by
   have:¬(0<p.props.length):=fun x=>d ⟨k,.inr x⟩;omega
  rw[if_pos h,Ir f];unfold eS;rw[ae,ae,ae]
  ·exact fun x=>x i
  ·rintro ⟨x,y| y⟩
   ·exact d ⟨x,.inl y⟩
   ·exact y (f x)
  ·rintro (x| x| x| x)
   ·rw[g]at x;cases x
   ·omega
   ·omega
   ·rw[j]at x;cases x
 ·rw[ae h];have l:¬(pe v p.kind=true/\p=qS p/\¬(v=4/\(p.code≠0\/0<p.props.length))/\1<=p.id/\p.id<=65535/\may p.kind p.code=true):=fun x=>h (au x);unfold eS
  by_cases a:pe v p.kind=false\/p.id<=0\/65536<=p.id\/may p.kind p.code=false
  ·rw[if_pos a]
  rw[ae a]
  by_cases b:v=4/\(p.code≠0\/p.props.length≠0)
  ·rw[if_pos b]
  rw[ae b]
  by_cases c:p=qS p
  ·exfalso;apply l;refine⟨?_,c,?_,?_,?_,?_⟩
   ·cases e:pe v p.kind
    ·exact absurd (.inl e) a
    ·rfl
   ·rintro ⟨x,y| y⟩
    ·exact b ⟨x,.inl y⟩
    ·exact b ⟨x,.inr (by omega)⟩
   ·have:¬p.id<=0:=fun x=>a (.inr (.inl x));omega
   ·have:¬65536<=p.id:=fun x=>a (.inr (.inr (.inl x)));omega
   ·cases e:may p.kind p.code
    ·exact absurd (.inr (.inr (.inr e))) a
    ·rfl
  ·rw[if_pos c]
def Ia(v k c:Int)(l:List Pr):ByteArray:=if v=5 then⟨(oG k c l).toArray⟩else⟨#[]⟩
def rkP(v k:Int)(t:ByteArray)(a:Nat):List Pr×Nat×Int:=if a+1<t.size then QK v k t (a+1) 0 else([],a+1,0)
def rkE(v k:Int)(t:ByteArray)(a:Nat):Int:=if(rkP v k t a).2.2=0/\t.size<=(rkP v k t a).2.1/\Ia v k (br t a 0 1:Nat) (rkP v k t a).1≠t.extract a t.size then 5 else(rkP v k t a).2.2
def Qu(v k:Int)(t:ByteArray)(a:Nat)(e:Int):Int×List Pr×Nat×Int:=
 if v=4\/e≠0\/t.size<=a then(0,[],a,e)else((br t a 0 1:Nat),(rkP v k t a).1,(rkP v k t a).2.1,rkE v k t a)
def QE(t:ByteArray)(a:Nat)(e x:Int):Int:=if(if e=0/\a<t.size then 5 else e)=0 then x else(if e=0/\a<t.size then 5 else e)
def Qx(p:Pk)(t:ByteArray)(a:Nat)(e x:Int):Pk×Int:=if QE t a e x≠0 then(pk0,QE t a e x)else(p,0)
def Rj(t:ByteArray)(a:Nat)(e:Int):Int:=if e≠0 then e else if a<t.size then 5 else 0
theorem RZ(t:ByteArray)(a:Nat)(e:Int):(if e=0/\a<t.size then 5 else e)=Rj t a e:=by
 unfold Rj
 by_cases h:e=0
 ·subst h
  by_cases b:a<t.size
  ·rw[if_pos ⟨rfl,b⟩,ae (fun x=>x rfl),if_pos b]
  ·rw[ae (fun x=>b x.2),ae (fun x=>x rfl),ae b]
 ·rw[ae (fun y=>h y.1),if_pos h]
theorem Sx{k:Int}{t:ByteArray}{a:Nat}(ha:a<=t.size):(Qu 5 k t a 0).1=(dg k t a).1/\(Qu 5 k t a 0).2.1=(dg k t a).2.1/\
  ∀x,QE t (Qu 5 k t a 0).2.2.1 (Qu 5 k t a 0).2.2.2 x=QE t (dg k t a).2.2.1 (dg k t a).2.2.2 x:=by
 by_cases i:t.size<=a
 ·have f:Qu 5 k t a 0=(0,[],a,0):=by unfold Qu;rw[if_pos (.inr (.inr i))]
  have d:dg k t a=(0,[],a,0):=by unfold dg;rw[if_pos i]
  rw[f,d];exact⟨rfl,rfl,fun _=>rfl⟩
 have f:Qu 5 k t a 0=(((br t a 0 1:Nat):Int),(rkP 5 k t a).1,(rkP 5 k t a).2.1,rkE 5 k t a):=by
  unfold Qu;rw[ae];rintro (x| x| x)
  ·exact absurd x (by decide)
  ·exact x rfl
  ·exact i x
 have u:ls (t.extract a t.size)=(ls t).drop a:=by
  have v:=Ym t a (t.size- a);rw[show a+(t.size- a)=t.size by omega]at v;rw[v,bt];rw[bU,aN];exact ac _
 have m:∀l,(ls t).drop a=oG k (br t a 0 1:Nat) l->¬(Ia 5 k (br t a 0 1:Nat) l≠t.extract a t.size):=fun l h x=>x (by
  apply eX;unfold Ia;rw[if_pos rfl,jo,u,h])
 have b:=rM (k:=k) ha
 by_cases r:t.size=a+1
 ·have g:rkP 5 k t a=([],a+1,0):=by unfold rkP;rw[ae (by omega)]
  have d:dg k t a=(((br t a 0 1:Nat):Int),[],a+1,if br t a 0 1=0 then 5 else 0):=by unfold dg;rw[ae i,if_pos r]
  have w:rkE 5 k t a=if br t a 0 1=0 then 5 else 0:=by
   unfold rkE;rw[g];simp only
   by_cases j:br t a 0 1=0
   ·rw[if_pos j,if_pos];refine⟨trivial,by omega,fun x=>?_⟩;have q:=congrArg ByteArray.size x;rw[aj,Ia,if_pos rfl,GW,j]at q;have:(oG k ((0:Nat):Int) []).length=0:=by unfold oG;rw[if_pos ⟨rfl,rfl⟩];rfl
    omega
   ·rw[ae j,ae];rintro ⟨-,-,x⟩;rw[d,ae j]at b;exact m _ (b rfl (by show t.size<=a+1;omega)).1 x
  rw[f,d,g,w];exact⟨rfl,rfl,fun _=>rfl⟩
 have g:rkP 5 k t a=((aZ k (t.extract (a+1) t.size)).1,a+1+(aZ k (t.extract (a+1) t.size)).2.1,(aZ k (t.extract (a+1) t.size)).2.2):=by
  unfold rkP QK;rw[if_pos (by omega),ae];rintro (x| x)
  ·exact absurd x (by decide)
  ·exact x rfl
 have d:dg k t a=(((br t a 0 1:Nat):Int),(aZ k (t.extract (a+1) t.size)).1,a+1+(aZ k (t.extract (a+1) t.size)).2.1,if(aZ k (t.extract (a+1) t.size)).2.2≠0 then(aZ k (t.extract (a+1) t.size)).2.2 else if(aZ k (t.extract (a+1) t.size)).1.length=0 then 5 else 0):=by unfold dg;rw[ae i,ae r]
 refine⟨by rw[f,d],by rw[f,d,g],fun x=>?_⟩;rw[f,g];unfold rkE;rw[g];simp only;rw[d]at b⊢;simp only at b⊢;generalize aZ k (t.extract (a+1) t.size)=R at*;obtain⟨l,n,e⟩:=R;simp only at b⊢
 by_cases o:e=0
 rotate_left
 ·rw[ae (fun y=>o y.1),if_pos o]
 subst o;rw[ae (fun y=>y rfl)]at b;rw[ae (show ¬((0:Int)≠0)from fun y=>y rfl)]
 by_cases p:l.length=0
 ·rw[if_pos p];have s:l=[]:=aF p;subst s
  by_cases c:t.size<=a+1+n
  ·rw[if_pos];refine⟨rfl,c,fun y=>?_⟩;have q:=congrArg ByteArray.size y;rw[aj,Ia,if_pos rfl,GW]at q;have:(oG k ((br t a 0 1:Nat):Int) []).length<=1:=by
    unfold oG;split
    ·exact ag _
    ·show(Yk _ 1++[]).length<=1;rw[cW,fM];exact ac _
   omega
  ·rw[ae (fun y=>c y.2.1)];unfold QE;rw[RZ,RZ];unfold Rj;rw[ae (show ¬((0:Int)≠0)from fun y=>y rfl),if_pos (show a+1+n<t.size by omega),if_pos (show(5:Int)≠0 by decide)]
 ·rw[ae p]at b⊢;rw[ae];rintro ⟨-,c,y⟩;exact m _ (b rfl c).1 y
theorem Rb{p:Pk}{t:ByteArray}{a:Nat}{e x:Int}:Qx p t a e x=if Rj t a e≠0 then(pk0,Rj t a e)else if x≠0 then(pk0,x)else(p,0):=by
 unfold Qx QE;rw[RZ]
 by_cases h:Rj t a e=0
 ·rw[if_pos h,ae (show ¬(Rj t a e≠0)from fun y=>y h)]
 ·rw[ae h,if_pos h,if_pos h]
def rkR(v k:Int)(s:ByteArray):Int×List Pr×Nat×Int:=Qu v k s (aH s 0 0 2).2.1 (aH s 0 0 2).2.2
def rkQ(v k:Int)(s:ByteArray):Pk:=aP k (br s 0 0 2:Nat) (rkR v k s).1 (rkR v k s).2.1
theorem Ty{v k:Int}{s:ByteArray}(hk:pe v k=true):iW v k s=Qx (rkQ v k s) s (rkR v k s).2.2.1 (rkR v k s).2.2.2 (eS v (rkQ v k s)):=by
 unfold iW;rw[ae (fun x=>by rw[hk]at x;cases x)]
 by_cases d:s.size<2
 ·have a:aH s 0 0 (2:Nat)=(⟨#[]⟩,0,3):=kH (by omega);rw[show((2:Nat):Int)=2 from rfl]at a;have b:rkR v k s=(0,[],0,3):=by
   unfold rkR Qu;rw[a];exact if_pos (.inr (.inl (by decide)))
  rw[if_pos d,Rb,b];rfl
 rw[ae d];have a:aH s 0 0 (2:Nat)=(s.extract 0 (0+2),0+2,0):=dZ (by omega);rw[show((2:Nat):Int)=2 from rfl]at a;have b:rkR v k s=Qu v k s 2 0:=by unfold rkR;rw[a]
 have i:=AI hk;have c:(Qu v k s 2 0).1=(it v k s).1/\(Qu v k s 2 0).2.1=(it v k s).2.1/\∀x,QE s (Qu v k s 2 0).2.2.1 (Qu v k s 2 0).2.2.2 x=QE s (it v k s).2.2.1 (it v k s).2.2.2 x:=by
  unfold it
  by_cases e:v=5
  ·subst e;rw[if_pos rfl];exact Sx (by omega)
  ·have h:Qu v k s 2 0=(0,[],2,0):=by unfold Qu;exact if_pos (.inl (by omega))
   rw[ae e,h];exact⟨rfl,rfl,fun _=>rfl⟩
 have g:rkQ v k s=gq v k s:=by unfold rkQ gq;rw[b,c.1,c.2.1]
 have f:Qx (rkQ v k s) s (rkR v k s).2.2.1 (rkR v k s).2.2.2 (eS v (rkQ v k s))=Qx (rkQ v k s) s (it v k s).2.2.1 (it v k s).2.2.2 (eS v (rkQ v k s)):=by
  unfold Qx;rw[b,c.2.2]
 rw[f,Rb,g];rfl
theorem Sv{v k:Int}{t:ByteArray}{a:Nat}(ht:t.size<=140737488351232):(∀p∈(rkP v k t a).1,ea p)/\(rkP v k t a).1.length<=1000:=by
 unfold rkP;split
 ·unfold QK;split
  ·exact⟨fun q b=>(nomatch b),ag _⟩
  ·show(∀q∈(aZ k (t.extract (a+1) t.size)).1,ea q)/\(aZ k (t.extract (a+1) t.size)).1.length<=1000;have c:(t.extract (a+1) t.size).size<=140737488351232:=by rw[aj];omega
   generalize t.extract (a+1) t.size=Z at*;refine⟨iT (kind:=k) (s:=Z) c,?_⟩
   by_cases h:(aZ k Z).2.2=0
   ·exact kj h
   ·rw[fZ h];exact ag _
 ·exact⟨fun q b=>(nomatch b),ag _⟩
theorem Rc{v k:Int}{t:ByteArray}{a:Nat}{e:Int}(ht:t.size<=140737488351232):(∀p∈(Qu v k t a e).2.1,ea p)/\(Qu v k t a e).2.1.length<=1000:=by
 unfold Qu;split
 ·exact⟨fun q b=>(nomatch b),ag _⟩
 ·exact Sv ht
theorem Tg{v k i:Int}{t:ByteArray}{a:Nat}{e:Int}(ht:t.size<=140737488351232):PkOk (aP k i (Qu v k t a e).1 (Qu v k t a e).2.1):=
 iw (Rc ht).1 (aC (Rc ht).2 (by decide))
theorem MZ(v k:Int)(l:List Pr):(Hq v k l).size<=131075004:=by
 unfold Hq;split
 ·exact ag _
 ·rw[GW]
  by_cases h:(aM k l).2=0
  ·exact(G6 k l h).2
  ·rw[Ix k l h];exact ag _
theorem Mf(v k c:Int)(l:List Pr):(Ia v k c l).size<=131075005:=by
 unfold Ia;split
 ·rw[GW];unfold oG;split
  ·exact ag _
  ·rw[List.length_append,fM];split
   ·exact aC (ac 1) (by decide)
   ·by_cases h:(aM k l).2=0
    ·have:=(G6 k l h).2;omega
    ·rw[Ix k l h];exact aC (ac 1) (by decide)
 ·exact ag _
section
attribute [local go_sem ↓] bD bF bH bI bu
attribute [local go_sem] bc aD bh bg bK bJ bd aY be ax cI dC dB dt dj di dA dr dp dn bW co bO bZ bX cz cy cw cu ct cC YB bS bP bR
theorem Mh(p:Pk)(h:Hs)(w:World):(qP #[(0,.int .i64 p.kind),(4,.int .i64 p.id),(17,.int .i64 p.code),(20,.slice h.props.a p.props.length h.props.c)]).run prog w= .ok (pkV (qS p) (vU h)) w:=by kernel_rfl
theorem JS(v:Int)(p:Pk)(h:Hs)(w:World)(ip:PkIn w w.heap.size p h)(ok:PkOk p):
  Calls prog 115 #[.int .i64 v,pkV p h] w fun e w'=>e= .returned (.bool (Hn v p))/\Below w.heap.size w w':=by
 have N:=aa ok;have g:=aa ((St.start w).push ip);clear ip ok;go_enter func115,ntmps115;have F:=g.o.cell 0 rfl 0;rw[cI]at F
 go_wp2_with fail
 refine(pS v _).mono ?_;rintro e w1 ⟨rfl,rfl⟩;cases s:ba v
 ·have b:Hid (Hn v p=false):=aa (ah (fun x=>by have J:=aR (show decide _=true from x.1);have Y:=Gy (show decide (v=4\/v=5)=false from s);exact Y J.1));clear s;go_wp2;go_ret;exact⟨by rw[b.o];rfl,g.o.kept⟩
 by_cases K:p.kind<4
 ·have b:Hid (Hn v p=false):=aa (ah (fun x=>by have J:=aR (show decide _=true from x.1);omega));clear s;go_wp2;go_ret;exact⟨by rw[b.o];rfl,g.o.kept⟩
 have d4:decide (p.kind<(4:Int))=false:=ah K
 by_cases Q:7<p.kind
 ·have b:Hid (Hn v p=false):=aa (ah (fun x=>by have J:=aR (show decide _=true from x.1);omega));clear s K;go_wp2;go_ret;exact⟨by rw[b.o];rfl,g.o.kept⟩
 have d7:decide ((7:Int)<p.kind)=false:=ah Q;have M:Hid (pe v p.kind=true):=aa (au ⟨aR (show decide (v=4\/v=5)=true from s),by omega,by omega⟩);clear s K Q;have G:=g.o.cell 0 rfl 4;have o:=g.o.cell 0 rfl 21;have q:=g.o.cell 0 rfl 24;rw[dj]at G;rw[YB]at o;rw[bR]at q;have C:=fun W=>Mh p h W;generalize Z:w.alloc (.cells (pkC p h) PkT)=W at*;have i:Hid (St w [(w.heap.size,p,h),(W.heap.size,qS p,vU h)] (W.alloc (.cells (pkC (qS p) (vU h)) PkT))):=aa (g.o.push (Fh (g.o.into 0 rfl)));have I:Hid (Calls prog 113 #[pkV p h,pkV (qS p) (vU h)] (W.alloc (.cells (pkC (qS p) (vU h)) PkT)) fun e w'=>e= .returned (.bool (decide (p=qS p)))/\Below (W.alloc (.cells (pkC (qS p) (vU h)) PkT)).heap.size (W.alloc (.cells (pkC (qS p) (vU h)) PkT)) w'):=
  aa (GP p (qS p) h (vU h) _ (i.o.into 0 rfl) (i.o.into 1 rfl) N.o.len (Dy N.o.len))
 clear Z;have D:=i.o.ld 0 rfl;have E:=i.o.ld 1 rfl;have m:=i.o.cell 0 rfl 21;have n:=i.o.cell 0 rfl 24;rw[YB]at m;rw[bR]at n
 by_cases j:v=4
 focus
  have V:(v==4)=true:=aK.2 j
  by_cases l:p.code=0
  focus
   have X:(p.code !=0)=false:=by simpa using l
   by_cases t:0<p.props.length
   ·have U:decide ((0:Int)<(p.props.length:Int))=true:=au (by omega);have P:decide (0<p.props.length)=true:=au t;have r:Hid (v=4/\(p.code≠0\/0<p.props.length)):=aa ⟨j,.inr t⟩;clear j l t
    go_wp2_with fail
    refine I.o.mono ?_;rintro e S ⟨rfl,d⟩;have c:=aa (i.o.below d);clear d D E F G o q m n C
    have z:=c.o.cell 0 rfl 0;have A:=c.o.cell 0 rfl 4;have f:=c.o.cell 0 rfl 21;rw[cI]at z;rw[dj]at A;rw[YB]at f
    by_cases a:p=qS p
    rotate_left
    ·have b:Hid (Hn v p=false):=aa (ah (fun x=>a x.2.1));rw[ah a];clear a;go_wp2;go_ret;exact⟨by rw[b.o];rfl,c.o.kept⟩
    rw[au a];have B:=aa a;clear a;have b:Hid (Hn v p=false):=aa (ah (fun x=>x.2.2.1 r.o));go_wp2;go_ret;exact⟨by rw[b.o];rfl,c.o.kept⟩
   focus
    have U:decide ((0:Int)<(p.props.length:Int))=false:=ah (by omega);have P:decide (0<p.props.length)=false:=ah t;have r:Hid (¬(v=4/\(p.code≠0\/0<p.props.length))):=aa (fun x=>x.2.elim (fun y=>y l) t);clear j l t
   rotate_left
  rotate_left
  ·have X:(p.code !=0)=true:=aA.2 l;have r:Hid (v=4/\(p.code≠0\/0<p.props.length)):=aa ⟨j,.inl l⟩;clear j l
   go_wp2_with fail
   refine I.o.mono ?_;rintro e S ⟨rfl,d⟩;have c:=aa (i.o.below d);clear d D E F G o q m n C
   have z:=c.o.cell 0 rfl 0;have A:=c.o.cell 0 rfl 4;have f:=c.o.cell 0 rfl 21;rw[cI]at z;rw[dj]at A;rw[YB]at f
   by_cases a:p=qS p
   rotate_left
   ·have b:Hid (Hn v p=false):=aa (ah (fun x=>a x.2.1));rw[ah a];clear a;go_wp2;go_ret;exact⟨by rw[b.o];rfl,c.o.kept⟩
   rw[au a];have B:=aa a;clear a;have b:Hid (Hn v p=false):=aa (ah (fun x=>x.2.2.1 r.o));go_wp2;go_ret;exact⟨by rw[b.o];rfl,c.o.kept⟩
 rotate_left
 focus
  have V:(v==4)=false:=ar.2 j;have r:Hid (¬(v=4/\(p.code≠0\/0<p.props.length))):=aa (fun x=>j x.1);clear j
 rotate_left
 all_goals
  go_wp2_with fail
  refine I.o.mono ?_;rintro e S ⟨rfl,d⟩;have c:=aa (i.o.below d);clear d D E F G o q m n C
  have z:=c.o.cell 0 rfl 0;have A:=c.o.cell 0 rfl 4;have f:=c.o.cell 0 rfl 21;rw[cI]at z;rw[dj]at A;rw[YB]at f
  by_cases a:p=qS p
  rotate_left
  ·have b:Hid (Hn v p=false):=aa (ah (fun x=>a x.2.1));rw[ah a];clear a;go_wp2;go_ret;exact⟨by rw[b.o];rfl,c.o.kept⟩
  rw[au a];have B:=aa a;clear a
  by_cases k:1<=p.id
  rotate_left
  ·have b:Hid (Hn v p=false):=aa (ah (fun x=>k x.2.2.2.1));have H:decide ((1:Int)<=p.id)=false:=ah k;clear k;go_wp2;go_ret;exact⟨by rw[b.o];rfl,c.o.kept⟩
  by_cases u:p.id<=65535
  rotate_left
  ·have b:Hid (Hn v p=false):=aa (ah (fun x=>u x.2.2.2.2.1));have H:decide ((1:Int)<=p.id)=true:=au k;have O:decide (p.id<=(65535:Int))=false:=ah u;clear k u;go_wp2;go_ret;exact⟨by rw[b.o];rfl,c.o.kept⟩
  have H:decide ((1:Int)<=p.id)=true:=au k;have O:decide (p.id<=(65535:Int))=true:=au u;have L:=aa (And.intro k u);clear k u
  go_wp2_with fail
  refine Yg (Ht p.kind p.code _) fun w4 d=>?_;have T:=aa (c.o.below d);clear d z A f
  have b:Hid (Hn v p=may p.kind p.code):=aa (by
   cases R:may p.kind p.code
   ·exact ah (fun x=>by have:=x.2.2.2.2.2;rw[R]at this;cases this)
   ·exact au ⟨M.o,B.o,r.o,L.o.1,L.o.2,R⟩)
  go_wp2;go_ret;exact⟨by rw[b.o];rfl,T.o.kept⟩
theorem IZ(v:Int)(p:Pk)(h:Hs)(w:World)(ip:PkIn w w.heap.size p h)(ok:PkOk p):
  Calls prog 73 #[.int .i64 v,pkV p h] w fun e w'=>e= .returned (.int .i64 (eS v p))/\Below w.heap.size w w':=by
 have j:=aa ok;have k:=aa ((St.start w).push ip);have l:=aa (OS v p);clear ip ok;go_enter func73,ntmps73;have o:=k.o.ld 0 rfl
 go_wp2_with fail
 refine Yg (JS v p h _ (k.o.into 0 rfl) j.o) fun q d=>?_;have b:=aa (k.o.below d);clear d o
 cases f:Hn v p
 ·have i:Hid (eS v p=2):=aa (by rw[l.o,ae (fun x=>by rw[f]at x;cases x)]);clear f;go_wp2;go_ret;exact⟨by rw[i.o];rfl,b.o.kept⟩
 have i:Hid (eS v p=GI v p.kind p.props):=aa (by rw[l.o,if_pos f]);clear f;have m:=b.o.cell 0 rfl 0;have g:=b.o.cell 0 rfl 24;rw[cI]at m;rw[bR]at g
 go_wp2_with fail
 refine Yg (Gx v p.kind p.props _ rfl j.o.props h.props.a h.props.c _ (b.o.into 0 rfl).props j.o.len.2.2.2 (b.o.into 0 rfl).caps.2.2.2) fun r d=>?_;have n:=aa (b.o.below d);clear d m g
 go_wp2;go_ret;exact⟨by rw[i.o];rfl,n.o.kept⟩
theorem JD(v k c:Int)(l:List Pr)(n:Nat)(hn:l.length=n)(hc:0<=c/\c<256)(hg:∀p∈l,ea p)(A:Option Addr)(q:Nat)(w:World)(h:Rd w w.heap.size 4 A n (prs l))(hl:n<=4611686018427387904)(hq:n<=q):
  Calls prog 126 #[.int .i64 v,.int .i64 k,.int .i64 c,.slice A n q] w fun e w'=>e= .returned (.string (Ia v k c l))/\Below w.heap.size w w':=by
 have H:=aa h;have G:=aa hg;have j:=aa hn;have I:=aa hl;have J:=aa hq
 clear h hg hn hl hq
 by_cases s:v=5
 rotate_left
 ·have L:(v==5)=false:=ar.2 s;have m:Hid (Ia v k c l=⟨#[]⟩):=aa (ae s);clear s;go_enter func126,ntmps126;go_wp2;go_ret;exact⟨by rw[m.o];rfl,aq _ _⟩
 have L:(v==5)=true:=aK.2 s;have m:Hid (Ia v k c l=⟨(oG k c l).toArray⟩):=aa (if_pos s);have K:Hid (Hq v k l=⟨(aM k l).1.toArray⟩):=aa (ae (by omega));have t:Hid (oG k c l=if c=0/\l.length=0 then []else Yk c.toNat 1++(if l.length=0 then []else(aM k l).1)):=aa rfl;have a:c=((UInt8.ofNat c.toNat).toNat:Int):=by rw[UInt8.toNat_ofNat'];omega
 have z:Hid (Yk c.toNat 1=[UInt8.ofNat c.toNat]):=aa (by
  show [UInt8.ofNat (c.toNat/ 2^ 0)]=_;rw[Nat.pow_zero,Nat.div_one])
 have N:=Lg (P:=prog) 92 9 5 underlying92 underlying5 underlying9;have u:IntKind.u8.wrap c=c:=by rw[GM];omega
 clear s;obtain⟨Y,E⟩:∃Y,Ia v k c l=Y:=⟨_,rfl⟩;rw[E]at m⊢;clear E
 by_cases d:c=0/\n=0
 ·have o:Hid (Y=⟨#[]⟩):=aa (by rw[m.o,t.o,if_pos ⟨d.1,by rw[j.o];exact d.2⟩]);have r:(c !=0)=false:=by simpa using d.1
  have C:decide ((0:Int)<(n:Int))=false:=ah (by omega);have y:decide (0<n)=false:=ah (by omega);clear d a hc u;go_enter func126,ntmps126;go_wp2;go_ret;exact⟨by rw[o.o];rfl,aq _ _⟩
 obtain⟨b,g⟩:∃b,UInt8.ofNat c.toNat=b:=⟨_,rfl⟩;rw[g]at a z;have M:=aa d
 by_cases f:n=0
 ·have o:Hid (Y=⟨#[b]⟩):=aa (by rw[m.o,t.o,ae (by rw[j.o];exact d),if_pos (by rw[j.o];exact f),z.o];rfl);have r:(c !=0)=true:=aA.2 (fun x=>d ⟨x,f⟩);have C:decide ((0:Int)<(n:Int))=false:=ah (by omega);have y:decide (0<n)=false:=ah (by omega);rw[a]at r u⊢;clear d f a hc g;go_enter func126,ntmps126;go_wp2;go_ret;exact⟨by rw[o.o];rfl,(aq _ _).alloc (ac _) _⟩
 have o:Hid (Y=(⟨#[b]⟩:ByteArray)++Hq v k l):=aa (by
  rw[m.o,t.o,ae (by rw[j.o];exact d),ae (by rw[j.o];exact f),z.o,K.o];apply eX;rw[jo,fe,jo,jo])
 have B:=aa (MZ v k l);have C:decide ((0:Int)<(n:Int))=true:=au (by omega);have y:decide (0<n)=true:=au (by omega)
 by_cases i:c=0
 focus
  have r:(c !=0)=false:=by simpa using i
  rw[a]at r u⊢;clear d f a hc g i;go_enter func126,ntmps126
 rotate_left
 focus
  have r:(c !=0)=true:=aA.2 i;rw[a]at r u⊢;clear d f a hc g i;go_enter func126,ntmps126
 rotate_left
 all_goals
  go_wp2_with fail
  refine Yg (G5 v k l n j.o G.o A q _ ((H.o.alloc (ac _) _).wider (by simp)) I.o J.o) fun Q g=>?_;have F:=aa (((aq w.heap.size w).alloc (ac _) (.cells #[.int .u8 (b.toNat:Int)] 5)).trans (g.mono (by simp)));clear g
  obtain⟨T,D⟩:∃T,Hq v k l=T:=⟨_,rfl⟩;rw[D]at o B⊢;have O:¬(9223372036854775807<1+T.size):=by have:=B.o;omega
  clear D;go_wp2;go_ret;exact⟨by rw[o.o];rfl,F.o⟩
end
section
attribute [local go_sem ↓] bD bF bH bI bu
attribute [local go_sem] bc aD bh bg bK bJ bd aY be aO ax cI dC dB dt dj di dA dr dp dn bW co bO bZ bX cz cy cw cu ct cC YB bS bP bR
theorem NQ{v:Int}{p:Pk}(g:AckGood v p):Ia v p.kind p.code p.props=⟨(Fa p).toArray⟩:=by
 unfold Ia
 by_cases a:v=5
 ·rw[if_pos a];rfl
 ·obtain⟨b,c⟩:=g.old ((AI g.k).resolve_right a);rw[ae a,Fa,if_pos ⟨b,by rw[c];rfl⟩]
theorem Yt(v:Int)(p:Pk)(h:Hs)(w:World)(ip:PkIn w w.heap.size p h)(ok:PkOk p):
  Calls prog 78 #[.int .i64 v,pkV p h] w fun e w'=>e= .returned (.tuple #[.string ⟨(Ga v p).1.toArray⟩,.int .i64 (Ga v p).2])/\Below w.heap.size w w':=by
 have r:=aa ok;have s:=aa ((St.start w).push ip);have y:Hid (Ga v p=if eS v p=0 then(Yk p.id.toNat 2++Fa p,0)else([],eS v p)):=aa rfl;clear ip ok;go_enter func78,ntmps78;have M:=s.o.ld 0 rfl
 go_wp2_with fail
 refine Yg (IZ v p h _ (s.o.into 0 rfl) r.o) fun g D=>?_;have b:=aa (s.o.below D);clear D M
 by_cases f:eS v p=0
 rotate_left
 ·have S:(eS v p !=0)=true:=aA.2 f;have q:Hid (Ga v p=([],eS v p)):=aa (by rw[y.o,ae f]);clear f;go_wp2;go_ret2;exact⟨by rw[q.o];rfl,b.o.kept⟩
 have q:Hid (Ga v p=(Yk p.id.toNat 2++Fa p,0)):=aa (by rw[y.o,if_pos f]);have G:=aa (AJ f);rw[f];clear f;obtain⟨m,E,R⟩:∃m:Nat,Hid (p.id.toNat=m)/\IntKind.u64.wrap p.id=(m:Int):=⟨_,aa rfl,by rw[iZ];have:=G.o.id1;have:=G.o.id2;omega⟩;have K:Hid (m<65536):=aa (by have:=E.out;have:=G.o.id2;omega);obtain⟨X,i⟩:∃X:ByteArray,(⟨(Yk m 2).toArray⟩:ByteArray)=X:=⟨_,rfl⟩;have B:X.size=2:=by rw[<-i,GW,fM]
 obtain⟨Z,j⟩:∃Z:ByteArray,Ia v p.kind p.code p.props=Z:=⟨_,rfl⟩;have C:Z.size<=131075005:=by rw[<-j];exact Mf _ _ _ _
 have z:Hid (((⟨(Ga v p).1.toArray⟩:ByteArray),(Ga v p).2)=(X++Z,0)):=aa (by
  rw[q.o,E.out,<-i,<-j,NQ G.o];simp only;rw[ap2])
 have k:=jw (W:=g) (fun x H=>GV m 2 x (by have:=K.o;omega) (by omega) (by omega));rw[show((2:Nat):Int)=2 from rfl]at k;rw[i]at k;have u:=jw (W:=g) (fun x H=>JD v p.kind p.code p.props _ rfl ⟨G.o.c1,G.o.c2⟩ r.o.props h.props.a h.props.c x ((b.o.below H).into 0 rfl).props r.o.len.2.2.2 (b.o.into 0 rfl).caps.2.2.2);rw[j]at u;have N:=cell_regrown (show g.cell? ⟨w.heap.size,0,none⟩=some (.int .i64 p.kind)from b.o.cell 0 rfl 0);have O:=cell_regrown (show g.cell? ⟨w.heap.size,4,none⟩=some (.int .i64 p.id)from b.o.cell 0 rfl 4);have I:=cell_regrown (show g.cell? ⟨w.heap.size,21,none⟩=some (.int .i64 p.code)from b.o.cell 0 rfl 21);have J:=cell_regrown (show g.cell? ⟨w.heap.size,24,none⟩=some (.slice h.props.a p.props.length h.props.c)from b.o.cell 0 rfl 24);have Q:¬(9223372036854775807<X.size+Z.size):=by omega
 have l:=aa (fun d P=>b.o.kept.trans ((below_regrown g d P).mono b.o.kept.size));clear i j B C
 go_wp2_with fail
 refine wp_region_quiet_below (by kernel_rfl) (by kernel_rfl) ?_
 repeat (go_big_quiet_step (first| with_reducible exact k _ _| with_reducible exact u _ _))
 refine kE ?_;intro _ F;obtain⟨⟨A,osq⟩,t⟩:=F;subst t;have L:=aa (l.o A osq);clear k u N O I J l;generalize Sort.grow (redrawn _ A) osq=wq at*;go_wp2;go_ret2;refine⟨?_,L.o⟩;have n:=congrArg Prod.fst z.o;have o:=congrArg Prod.snd z.o;simp only at n o;rw[n,o];rfl
def TL(g:Nat)(r:Pk×Int)(w:World)(e:Ending)(w':World):Prop:=∃k,e= .returned (.tuple #[pkV r.1 k,.int .i64 r.2])/\PkIn w' w'.heap.size r.1 k/\w.grownBy w' (some g)
structure DS (w:World) (g:Nat) (p:Pk) (h:Hs) (t:ByteArray) (a:Nat) (e:Int) (x:World):Prop where
 mods:Mods (fun z=>z=g) w x
 pk:Bk x w.heap.size PkT (pkC p h)
 res:Bk x (w.heap.size+1) PkT (pkC pk0 hs0)
 cur:IC x g t a e
 lt:g<w.heap.size
section
variable {w x y:World} {g a:Nat} {p:Pk} {h:Hs} {t:ByteArray} {e:Int}
theorem DS.below(d:DS w g p h t a e x)(hb:Below x.heap.size x y):DS w g p h t a e y:=
 ⟨d.mods.trans (Mods.of_below hb),Yh d.pk hb,Yh d.res hb,d.cur.below hb,d.lt⟩
theorem DS.turn(d:DS w g p h t a e x){e':Int}(hc:IC y g t a e')(hm:x.grownBy y (some g)):DS w g p h t a e' y:=
 ⟨d.mods.trans (Mods.of_grown hm rfl),d.pk.mods (S:=fun z=>z=g) (Mods.of_grown hm rfl) (by have:=d.lt;omega),d.res.mods (S:=fun z=>z=g) (Mods.of_grown hm rfl) (by have:=d.lt;omega),hc,d.lt⟩
theorem Mods.grown{w x:World}{g:Nat}(h:Mods (fun z=>z=g) w x):w.grownBy x (some g):=⟨h.os,h.tape,h.output,h.size,fun i a b=>h.block i a (fun e=>b (by rw[e]))⟩
theorem DS.put(d:DS w g p h t a e x)(q:Pk)(k:Hs):Mods (fun z=>z=g) w (dE x (w.heap.size+1) q k):=by
 have c:Mods (fun z=>z=g\/z=w.heap.size+1) w (dE x (w.heap.size+1) q k):=(d.mods.mono (fun _ _ b=>.inl b)).trans (Mods.of_grown (cJ x (w.heap.size+1) q k) (.inr rfl));exact c.mono (fun i f b=>b.elim id (fun e=>by omega))
end
theorem QF(g a:Nat)(t:ByteArray)(e x:Int)(p:Pk)(h:Hs)(w:World)(hc:IC w g t a e)(hi:∀y,Mods (fun z=>z=g) w y->PkIn y y.heap.size p h):
  Calls prog 100 #[.pointer (some ⟨g,0,none⟩),pkV p h,.int .i64 x] w (TL g (Qx p t a e x) w):=by
 have G:=aa hi;have s:Hid (DS w g p h t a e ((w.alloc (.cells (pkC p h) PkT)).alloc (.cells (pkC pk0 hs0) PkT))):=aa
  ⟨(Mods.refl w).alloc _ |>.alloc _,(Bk.fresh w PkT (pkC p h)).alloc _,by
    have:=Bk.fresh (w.alloc (.cells (pkC p h) PkT)) PkT (pkC pk0 hs0);rwa[show(w.alloc (.cells (pkC p h) PkT)).heap.size=w.heap.size+1 by simp]at this,⟨(hc.1.alloc _).alloc _,hc.2⟩,hc.lt⟩
 have q:Hid (Qx p t a e x=if QE t a e x≠0 then(pk0,QE t a e x)else(p,0)):=aa rfl;have o:Hid (QE t a e x=if(if e=0/\a<t.size then 5 else e)=0 then x else(if e=0/\a<t.size then 5 else e)):=aa rfl;clear hc hi;obtain⟨⟨f,i,j⟩,-⟩:=s.o.cur.cells;go_enter func100,ntmps100
 by_cases E:e=0
 rotate_left
 focus
  have P:(e==0)=false:=ar.2 E;have k:Hid (QE t a e x=if e=0 then x else e):=aa (by rw[o.o,ae (show ¬(e=0/\a<t.size)from fun y=>E y.1)]);clear E;clear f i j;obtain⟨⟨f,i,j⟩,-⟩:=s.o.cur.cells
  go_wp2_with fail
  refine(Qv g a t _ x _ s.o.cur).mono ?_;rintro B u ⟨rfl,c,m⟩;have b:=aa (s.o.turn c m);clear c m f i j
  rw[<-k.o]at b;obtain⟨d,l⟩:∃d,QE t a e x=d:=⟨_,rfl⟩;rw[l]at b q;clear k o l;obtain⟨⟨f,i,j⟩,-⟩:=b.o.cur.cells;have D:=aW b.o.res
  by_cases n:d=0
  ·subst n;have r:Hid (Qx p t a e x=(p,0)):=aa (by rw[q.o,ae (fun y=>y rfl)]);have J:=cf b.o.pk;go_wp2;refine av (aI rfl _ rfl (cO b.o.res _ _)) rfl ?_;rw[r.o];exact⟨h,rfl,G.o _ (b.o.put _ _),(b.o.put _ _).grown⟩
  focus
   have r:Hid (Qx p t a e x=(pk0,d)):=aa (by rw[q.o,if_pos n])
  rotate_left
 rotate_left;subst E
 by_cases A:a<t.size
 focus
  have K:0<t.size- a:=by omega
  have k:Hid (QE t a 0 x=if(5:Int)=0 then x else 5):=aa (by rw[o.o,if_pos (show(0:Int)=0/\a<t.size from⟨rfl,A⟩)]);clear A
  go_wp2_with fail
  refine Yg (Qy g a t 0 _ s.o.cur) fun M C=>?_;have F:=aa (s.o.below C);clear C f i j
  obtain⟨⟨f,i,j⟩,-⟩:=F.o.cur.cells
  go_wp2_with fail
  refine(Qv g a t 0 5 _ F.o.cur).mono ?_;rintro B R ⟨rfl,c,m⟩;rw[if_pos rfl]at c;have v:=aa (F.o.turn c m);clear c m
  clear f i j;obtain⟨⟨f,i,j⟩,-⟩:=v.o.cur.cells
  go_wp2_with fail
  refine(Qv g a t _ x _ v.o.cur).mono ?_;rintro B u ⟨rfl,c,m⟩;have b:=aa (v.o.turn c m);clear c m f i j
  rw[<-k.o]at b;obtain⟨d,l⟩:∃d,QE t a 0 x=d:=⟨_,rfl⟩;rw[l]at b q;clear k o l;obtain⟨⟨f,i,j⟩,-⟩:=b.o.cur.cells;have D:=aW b.o.res
  by_cases n:d=0
  ·subst n;have r:Hid (Qx p t a 0 x=(p,0)):=aa (by rw[q.o,ae (fun y=>y rfl)]);have J:=cf b.o.pk;go_wp2;refine av (aI rfl _ rfl (cO b.o.res _ _)) rfl ?_;rw[r.o];exact⟨h,rfl,G.o _ (b.o.put _ _),(b.o.put _ _).grown⟩
  focus
   have r:Hid (Qx p t a 0 x=(pk0,d)):=aa (by rw[q.o,if_pos n])
  rotate_left
 rotate_left
 focus
  have K:¬0<t.size- a:=by omega
  have k:Hid (QE t a 0 x=x):=aa (by rw[o.o,ae (show ¬((0:Int)=0/\a<t.size)from fun y=>A y.2),if_pos rfl]);clear A
  go_wp2_with fail
  refine Yg (Qy g a t 0 _ s.o.cur) fun M C=>?_;have v:=aa (s.o.below C);clear C
  clear f i j;obtain⟨⟨f,i,j⟩,-⟩:=v.o.cur.cells
  go_wp2_with fail
  refine(Qv g a t _ x _ v.o.cur).mono ?_;rintro B u ⟨rfl,c,m⟩;rw[if_pos rfl]at c;have b:=aa (v.o.turn c m);clear c m f i j
  rw[<-k.o]at b;obtain⟨d,l⟩:∃d,QE t a 0 x=d:=⟨_,rfl⟩;rw[l]at b q;clear k o l;obtain⟨⟨f,i,j⟩,-⟩:=b.o.cur.cells;have D:=aW b.o.res
  by_cases n:d=0
  ·subst n;have r:Hid (Qx p t a 0 x=(p,0)):=aa (by rw[q.o,ae (fun y=>y rfl)]);have J:=cf b.o.pk;go_wp2;refine av (aI rfl _ rfl (cO b.o.res _ _)) rfl ?_;rw[r.o];exact⟨h,rfl,G.o _ (b.o.put _ _),(b.o.put _ _).grown⟩
  focus
   have r:Hid (Qx p t a 0 x=(pk0,d)):=aa (by rw[q.o,if_pos n])
  rotate_left
 rotate_left
 all_goals
  have Q:(d !=0)=true:=aA.2 n;clear n
  go_wp2_with fail
  have L:(zc (.pointer (some ⟨w.heap.size+1,0,none⟩)) (pkV pk0 hs0)).run prog u.drew= .ok () (dE u.drew (w.heap.size+1) pk0 hs0):=aW (b.o.res.drewN 1) pk0 hs0;have O:u.drew.cell? ⟨g,2,none⟩=some (.int .i64 d):=(b.o.cur.1.drewN 1).cell 2;have N:(dE u.drew (w.heap.size+1) pk0 hs0).cell? ⟨g,2,none⟩=some (.int .i64 d):=by
   have I:=(b.o.cur.1.drewN 1).mods (S:=fun z=>z=w.heap.size+1) (Mods.of_grown (cJ (u.drewN 1) (w.heap.size+1) pk0 hs0) rfl) (by have:=b.o.lt;omega);exact I.cell 2
  have H:Hid (DS w g p h t a d u.drew):=aa ⟨b.o.mods.drewN 1,b.o.pk.drewN 1,b.o.res.drewN 1,b.o.cur.drewN 1,b.o.lt⟩;clear D
  go_region_law (fail)
  all_goals
   go_wp2;refine av (aI rfl _ rfl (cO H.o.res _ _)) rfl ?_;rw[r.o];exact⟨hs0,rfl,⟨Rd.nil _ _ _ _,Rd.nil _ _ _ _,Rd.nil _ _ _ _,Rd.nil _ _ _ _,ag _,ag _,ag _,ag _⟩,(H.o.put _ _).grown⟩
def TO(g:Nat)(t:ByteArray)(r:Int×List Pr×Nat×Int)(w:World)(e:Ending)(w':World):Prop:=
 ∃A q,e= .returned (.tuple #[.int .i64 r.1,.slice A r.2.1.length q])/\r.2.1.length<=q/\Rd w' w'.heap.size 4 A r.2.1.length (prs r.2.1)/\IC w' g t r.2.2.1 r.2.2.2/\w.grownBy w' (some g)
theorem Rs{g a:Nat}{t:ByteArray}{c e:Int}{r:Int×List Pr×Nat×Int}{w w':World}(h:r=(c,[],a,e))(hc:IC w' g t a e)(hm:w.grownBy w' (some g)):TO g t r w (.returned (.tuple #[.int .i64 c,.slice none 0 0])) w':=by
 subst h;exact⟨none,0,rfl,ac _,Rd.nil _ _ _ _,hc,hm⟩
theorem QV(v k:Int)(g a:Nat)(t:ByteArray)(e:Int)(w:World)(hc:IC w g t a e)(ht:t.size<=140737488351232):
  Calls prog 104 #[.int .i64 v,.int .i64 k,.pointer (some ⟨g,0,none⟩)] w (TO g t (Qu v k t a e) w):=by
 have O:=aa hc;have HT:=aa ht
 obtain⟨⟨H,I,J⟩,K,f1,L⟩:=hc.cells;have aT:=aa hc.2.1;have S:Hid (Qu v k t a e=if v=4\/e≠0\/t.size<=a then(0,[],a,e)else(((br t a 0 1:Nat):Int),(rkP v k t a).1,(rkP v k t a).2.1,rkE v k t a)):=aa rfl;clear hc ht
 by_cases C:v=4
 ·have n:Hid (Qu v k t a e=(0,[],a,e)):=aa (by rw[S.o,if_pos (.inl C)]);have e4:(v==4)=true:=aK.2 C;clear C;go_enter func104,ntmps104;go_wp2;go_ret2;exact Rs n.o O.o (Yn _ _)
 have e4:(v==4)=false:=ar.2 C
 by_cases he:e=0
 rotate_left
 ·have n:Hid (Qu v k t a e=(0,[],a,e)):=aa (by rw[S.o,if_pos (.inr (.inl he))]);have e0:(e !=0)=true:=aA.2 he;clear C he;go_enter func104,ntmps104;go_wp2;go_ret2;exact Rs n.o O.o (Yn _ _)
 subst he
 by_cases ha:t.size<=a
 ·have n:Hid (Qu v k t a 0=(0,[],a,0)):=aa (by rw[S.o,if_pos (.inr (.inr ha))]);have d0:(((t.size- a:Nat):Int)==0)=true:=aK.2 (by omega);clear C ha;go_enter func104,ntmps104
  go_wp2_with fail
  refine Yg (Qy g a t 0 _ O.o) fun x0 b=>?_;have C1:=aa (O.o.below b);have M1:=aa (hJ b (some g));clear b
  go_wp2;go_ret2;exact Rs n.o C1.o M1.o
 have n:Hid (Qu v k t a 0=(((br t a 0 1:Nat):Int),(rkP v k t a).1,(rkP v k t a).2.1,rkE v k t a)):=aa (by rw[S.o,ae (by rintro (x| x| x);exact C x;exact x rfl;exact ha x)]);have d0:(((t.size- a:Nat):Int)==0)=false:=ar.2 (by omega);have aE:Hid (aH t a 0 1=(t.extract a (a+1),a+1,0)):=aa (dZ (k:=1) (by omega));have T:=aa (iV t a 0);have f:Hid (rkE v k t a=if(rkP v k t a).2.2=0/\t.size<=(rkP v k t a).2.1/\Ia v k (br t a 0 1:Nat) (rkP v k t a).1≠t.extract a t.size then 5 else(rkP v k t a).2.2):=aa rfl;have an:Hid (rkP v k t a=if a+1<t.size then QK v k t (a+1) 0 else([],a+1,0)):=aa rfl;have u:=aa (Sv (v:=v) (k:=k) (a:=a) HT.o);clear C S;go_enter func104,ntmps104
 go_wp2_with fail
 refine Yg (Qy g a t 0 _ O.o) fun x0 b=>?_;have C1:=aa (O.o.below b);have M1:=aa (hJ b (some g));clear b H I J K f1 L
 go_wp2_with fail
 refine Yg (QZ g a t 0 _ C1.o) fun x1 b=>?_;have C2:=aa (C1.o.below b);have M2:=aa (M1.o.trans (hJ b (some g)));clear b
 obtain⟨U,hU⟩:∃U,t.extract a t.size=U:=⟨_,rfl⟩;rw[hU]at f⊢;clear hU
 go_wp2_with fail
 refine(Qz g a t 0 1 _ C2.o (by decide)).mono ?_;rintro p x2 ⟨rfl,c,o⟩;rw[aE.o]at c;have C3:=aa c;have M3:=aa (M2.o.trans o);clear c o
 generalize br t a 0 1=m at*;have aU:IntKind.i64.wrap (m:Int)=(m:Int):=by rw[aQ];have:=T.o;omega
 have X:Hid (∀ {A:Option Addr} {l:List Pr} {d:Nat} {e2:Int} (y y':World),Rd y y.heap.size 4 A l.length (prs l)->IC y g t d e2->y.grownBy y' (some g)->Rd y' y'.heap.size 4 A l.length (prs l)):=aa (fun y y' Q c o=>(Q.other c.1 (Io _ _ _) o (ac _)).wider o.size)
 by_cases h1:a+1<t.size
 ·have aI:0<t.size- (a+1):=by omega
  have W:Hid (rkP v k t a=QK v k t (a+1) 0):=aa (by rw[an.o,if_pos h1]);clear h1
  go_wp2_with fail
  refine Yg (Qy g (a+1) t 0 _ C3.o) fun x3 b=>?_;have C4:=aa (C3.o.below b);have M4:=aa (M3.o.trans (hJ b (some g)));clear b
  go_wp2_with fail
  refine(QD v k g (a+1) t 0 _ C4.o HT.o).mono ?_;rintro p x4 ⟨A,q,rfl,N,Q,c,o⟩;rw[<-W.o]at N Q c⊢;generalize rkP v k t a=R at*;obtain⟨l,d,e2⟩:=R;simp only at n f u N Q c⊢;have s:=aa c;have P:=aa (M4.o.trans o);have h:=aa N;have z:=aa Q
  have aq:Hid (l.length=l.length):=aa rfl;clear c o N Q;obtain⟨⟨H,I,J⟩,K,f1,L⟩:=s.o.cells
  by_cases M:e2=0
  rotate_left
  ·have e0:(e2==0)=false:=ar.2 M;have i:Hid (Qu v k t a 0=((m:Int),l,d,e2)):=aa (by rw[n.o,f.o,ae (fun y=>M y.1)]);clear M;go_wp2;go_ret2;rw[i.o];exact⟨A,q,rfl,h.o,z.o,s.o,P.o⟩
  subst M
  by_cases r:t.size<=d
  rotate_left
  ·have dl:(((t.size- d:Nat):Int)==0)=false:=ar.2 (by omega);have i:Hid (Qu v k t a 0=((m:Int),l,d,0)):=aa (by rw[n.o,f.o,ae (fun y=>r y.2.1)]);clear r
   go_wp2_with fail
   refine Yg (Qy g d t 0 _ s.o) fun y0 b=>?_;have D:=aa (s.o.below b);have G:=aa (P.o.trans (hJ b (some g)));have B:=aa ((z.o.below b).wider b.size);clear b H I J K f1 L
   go_wp2;go_ret2;rw[i.o];exact⟨A,q,rfl,h.o,B.o,D.o,G.o⟩
  have dl:(((t.size- d:Nat):Int)==0)=true:=aK.2 (by omega);have F:=aa r;clear r
  go_wp2_with fail
  refine Yg (Qy g d t 0 _ s.o) fun y0 b=>?_;have D:=aa (s.o.below b);have G:=aa (P.o.trans (hJ b (some g)));have B:=aa ((z.o.below b).wider b.size);clear b H I J K f1 L
  go_wp2_with fail
  refine Yg (JD v k m l _ rfl ⟨by omega,by have:=T.o;omega⟩ u.o.1 A q _ B.o (by have:=u.o.2;omega) h.o) fun y1 b=>?_;have E:=aa (D.o.below b);have Y:=aa (G.o.trans (hJ b (some g)));have Z:=aa ((B.o.below b).wider b.size);clear b
  obtain⟨V,hV⟩:∃V,Ia v k m l=V:=⟨_,rfl⟩;rw[hV]at f⊢;clear hV
  by_cases j:V=U
  ·have x1:(V.toList==U.toList)=true:=by rw[j];simp
   have i:Hid (Qu v k t a 0=((m:Int),l,d,0)):=aa (by rw[n.o,f.o,ae (fun y=>y.2.2 j)]);clear j;go_wp2;go_ret2;rw[i.o];exact⟨A,q,rfl,h.o,Z.o,E.o,Y.o⟩
  ·have x1:(V.toList==U.toList)=false:=ar.2 (fun y=>j ((toList_inj _ _).1 y));have i:Hid (Qu v k t a 0=((m:Int),l,d,5)):=aa (by rw[n.o,f.o,if_pos (by simp;exact⟨F.o,j⟩)]);clear j
   go_wp2_with fail
   refine(Qv g d t 0 5 _ E.o).mono ?_;rintro p y2 ⟨rfl,c,o⟩;rw[if_pos rfl]at c;have CC:=aa c;have MC:=aa (Y.o.trans o);have ab:=aa ((X.o y1 y2 Z.o E.o o));clear c o
   go_wp2;go_ret2;rw[i.o];exact⟨A,q,rfl,h.o,ab.o,CC.o,MC.o⟩
 ·have aI:¬0<t.size- (a+1):=by omega
  have W:Hid (rkP v k t a=([],a+1,0)):=aa (by rw[an.o,ae h1]);clear h1
  go_wp2_with fail
  refine Yg (Qy g (a+1) t 0 _ C3.o) fun x3 b=>?_;have s:=aa (C3.o.below b);have P:=aa (M3.o.trans (hJ b (some g)));clear b
  rw[W.o]at n f u;simp only at n f u;obtain⟨d,ao⟩:∃d,a+1=d:=⟨_,rfl⟩;rw[ao]at n f s;have h:Hid (([]:List Pr).length<=0):=aa (ac _);have z:Hid (Rd x3 x3.heap.size 4 none ([]:List Pr).length (prs [])):=aa (Rd.nil _ _ _ _);have aq:Hid (([]:List Pr).length=0):=aa rfl;clear ao;obtain⟨⟨H,I,J⟩,K,f1,L⟩:=s.o.cells
  by_cases r:t.size<=d
  rotate_left
  ·have dl:(((t.size- d:Nat):Int)==0)=false:=ar.2 (by omega);have i:Hid (Qu v k t a 0=((m:Int),[],d,0)):=aa (by rw[n.o,f.o,ae (fun y=>r y.2.1)]);clear r
   go_wp2_with fail
   refine Yg (Qy g d t 0 _ s.o) fun y0 b=>?_;have D:=aa (s.o.below b);have G:=aa (P.o.trans (hJ b (some g)));have B:=aa ((z.o.below b).wider b.size);clear b H I J K f1 L
   go_wp2;go_ret2;rw[i.o];exact⟨none,0,rfl,h.o,B.o,D.o,G.o⟩
  have dl:(((t.size- d:Nat):Int)==0)=true:=aK.2 (by omega);have F:=aa r;clear r
  go_wp2_with fail
  refine Yg (Qy g d t 0 _ s.o) fun y0 b=>?_;have D:=aa (s.o.below b);have G:=aa (P.o.trans (hJ b (some g)));have B:=aa ((z.o.below b).wider b.size);clear b H I J K f1 L
  go_wp2_with fail
  refine Yg (JD v k m [] _ rfl ⟨by omega,by have:=T.o;omega⟩ u.o.1 none 0 _ B.o (by have:=u.o.2;omega) h.o) fun y1 b=>?_;have E:=aa (D.o.below b);have Y:=aa (G.o.trans (hJ b (some g)));have Z:=aa ((B.o.below b).wider b.size);clear b
  obtain⟨V,hV⟩:∃V,Ia v k m []=V:=⟨_,rfl⟩;rw[hV]at f⊢;clear hV
  by_cases j:V=U
  ·have x1:(V.toList==U.toList)=true:=by rw[j];simp
   have i:Hid (Qu v k t a 0=((m:Int),[],d,0)):=aa (by rw[n.o,f.o,ae (fun y=>y.2.2 j)]);clear j;go_wp2;go_ret2;rw[i.o];exact⟨none,0,rfl,h.o,Z.o,E.o,Y.o⟩
  ·have x1:(V.toList==U.toList)=false:=ar.2 (fun y=>j ((toList_inj _ _).1 y));have i:Hid (Qu v k t a 0=((m:Int),[],d,5)):=aa (by rw[n.o,f.o,if_pos (by simp;exact⟨F.o,j⟩)]);clear j
   go_wp2_with fail
   refine(Qv g d t 0 5 _ E.o).mono ?_;rintro p y2 ⟨rfl,c,o⟩;rw[if_pos rfl]at c;have CC:=aa c;have MC:=aa (Y.o.trans o);have ab:=aa ((X.o y1 y2 Z.o E.o o));clear c o
   go_wp2;go_ret2;rw[i.o];exact⟨none,0,rfl,h.o,ab.o,CC.o,MC.o⟩
end
end Go.Proofs.YtooikoiladioeaaGreatDoor
