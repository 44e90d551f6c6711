/- Parts: OrdG, CntH, CntS, ConA, MFil. -/
import Derived.OrdersHeld
import Derived.Below
import Derived.Test.YtafoknnjekegkaaGreatDoorLqG0MCnu
import Derived.Lib.SplitLaws
set_option maxRecDepth 10000
set_option maxHeartbeats 8000000
namespace Go.Proofs.YtafoknnjekegkaaGreatDoor
open Go Go.RowKit
open Go.Proofs.Tryz
inductive Kd where
 | fix (v:Value)
 | rel (R:Value->abP->Prop)
def Kd.val:Kd->Value->Value
 | .fix v,_=>v
 | .rel _,u=>u
def Kd.fits:Kd->Value->abP->Prop
 | .fix v,u,_=>u=v
 | .rel R,u,w=>R u w
def Kd.holds(k:Kd)(u:Value)(w:abP):Prop:=k.fits (k.val u) w
def Kd.stable(T:abP->abP->Prop)(k:Kd):Prop:=∀u x y,k.fits u x->T x y->k.fits u y
theorem JA{k:Kd}{u:Value}{w:abP}(h:k.fits u w):k.val u=u:=by
 cases k with
 | fix v=>exact h.symm
 | rel R=>rfl
theorem Wo(T:abP->abP->Prop)(v:Value):(Kd.fix v).stable T:=λ_ _ _ h _=>h
def Ww(P:Program)(Post:Value->abP->Prop):Result Next->Prop
 | .ok (.value v) w'=>Post v w'
 | .ok .skip w'=>Post undef w'
 | .ok (.enter f args) w'=>Calls P f args w' λe w''=>∃v,e= .returned v/\Post v w''
 | _=>False
def Wn(o:Oper)(j:Nat):Bool:=o.after.any λe=>Region.binds .any e&&e.on==j
def Ws(ops:Array Oper)(i:Nat)(o oj:Oper):Bool:=
 (match o.dst with| some d=>oj.dst !=some d&&(!(oj.looksAt ops).contains d || Wn oj i) | none=>true)&&
 (match oj.dst with| some d=>!(o.looksAt ops).contains d || Wn oj i| none=>true)
def Wx(ops:Array Oper):Nat->List Oper->Bool
 | _,[]=>true
 | i,o :: l=>(o.after.all λe=>!Region.binds .any e || decide (e.on<i))&&((match o.dst with| some d=>!(o.looksAt ops).contains d| none=>true)&&((l.all λoj=>Ws ops i o oj)&&Wx ops (i+1) l))
section
variable {P:Program} {ops:Array Oper} {Q:Exit->Act->abP->Prop} {S:abP->Prop} {T:abP->abP->Prop}
structure ChkG (ops:Array Oper):Prop where
 up:∀(i:Nat) (o:Oper),ops[i]? =some o->∀e∈o.after,Region.binds .any e=true->e.on<i
 one:∀(i j:Nat) (o oj:Oper) (d:Tmp),ops[i]? =some o->ops[j]? =some oj->o.dst=some d->oj.dst=some d->i=j
 look:∀(i j:Nat) (o oj:Oper) (d:Tmp),ops[i]? =some o->ops[j]? =some oj->oj.dst=some d->d∈o.looksAt ops->Wn o j=true\/Wn oj i=true
theorem Wp{i:Nat}:∀ {l:List Oper} {k:Nat},Wx ops k l=true->∀a b o oj,a<b->l[a]? =some o->l[b]? =some oj->Ws ops (k+a) o oj=true
 | [],_,_,a,_,_,_,_,h,_=>by simp at h
 | x :: l,k,hB,a,b,o,oj,hab,ha,hb=>by
   simp only[Wx,eh]at hB;obtain⟨-,-,h1,h2⟩:=hB;obtain⟨b,rfl⟩:∃c,b=c+1:=⟨b- 1,by omega⟩;rw[aE]at hb;cases a with
   | zero=>
     rw[aB]at ha;cases ha;exact dL.1 h1 oj (iL hb)
   | succ a=>
     rw[aE]at ha;have:=Wp (i:=i) h2 a b o oj (by omega) ha hb;rwa[Nat.add_assoc,Nat.add_comm 1 a]at this
theorem Wr:∀ {l:List Oper} {k:Nat},Wx ops k l=true->∀a o,l[a]? =some o->(∀e∈o.after,Region.binds .any e=true->e.on<k+a)/\(∀d,o.dst=some d->d ∉ o.looksAt ops)
 | [],_,_,a,_,h=>by simp at h
 | x :: l,k,hB,a,o,ha=>by
   simp only[Wx,eh]at hB;obtain⟨h1,h2,h3,h4⟩:=hB;cases a with
   | zero=>
     rw[aB]at ha;cases ha;refine⟨λe f b=>?_,λd c g=>?_⟩
     ·have:=Array.all_eq_true_iff_forall_mem.1 h1 e f;rw[b]at this
      simpa using this
     ·rw[c]at h2;simp only[Bool.not_eq_true',List.contains_eq_mem,Ip]at h2;exact h2 g
   | succ a=>
     rw[aE]at ha;have:=Wr h4 a o ha;rwa[Nat.add_assoc,Nat.add_comm 1 a]at this
theorem WH(h:Wx ops 0 ops.toList=true):ChkG ops:=by
 have b:∀i,ops.toList[i]? =ops[i]? :=λi=>Array.getElem?_toList;refine⟨λi o f e p n=>?_,λi j o k d f c g l=>?_,λi j o k d f c g m=>?_⟩
 ·have:=(Wr h i o (by rw[b];exact f)).1 e p n;omega
 ·rcases Nat.lt_trichotomy i j with a| a| a
  ·have:=Wp (i:=0) h i j o k a (by rw[b];exact f) (by rw[b];exact c);simp[Ws,g,l]at this
  ·exact a
  ·have:=Wp (i:=0) h j i k o a (by rw[b];exact c) (by rw[b];exact f);simp[Ws,g,l]at this
 ·rcases Nat.lt_trichotomy i j with a| a| a
  ·have:=Wp (i:=0) h i j o k a (by rw[b];exact f) (by rw[b];exact c);simp only[Ws,g,eh,Bool.or_eq_true,Bool.not_eq_true',List.contains_eq_mem,Ip,bV]at this;exact .inr (this.2.resolve_left (λx=>x m))
  ·subst a;obtain rfl:o=k:=Option.some.inj (f.symm.trans c);exact absurd m ((Wr h i o (by rw[b];exact f)).2 d g)
  ·have:=Wp (i:=0) h j i k o a (by rw[b];exact c) (by rw[b];exact f);simp only[Ws,g,eh,Bool.or_eq_true,Bool.not_eq_true',List.contains_eq_mem,Ip,bV]at this;exact .inl (this.1.2.resolve_left (λx=>x m))
structure ActIs (ops:Array Oper) (a0:Act) (f:Nat->Value) (L:Nat->Prop) (a:Act):Prop where
 size:a.tmps.size=a0.tmps.size
 defs:a.defers=a0.defers
 got:∀(j:Nat) (o:Oper) (d:Tmp),ops[j]? =some o->o.dst=some d->L j->a.tmps[d]? =if d<a0.tmps.size then some (f j)else none
 old:∀d:Tmp,(∀(j:Nat) (o:Oper),ops[j]? =some o->o.dst=some d->¬L j)->a.tmps[d]? =a0.tmps[d]?
theorem ActIs.eq{a0 a b:Act}{f:Nat->Value}{L:Nat->Prop}(ha:ActIs ops a0 f L a)(hb:ActIs ops a0 f L b):a=b:=by
 obtain⟨m,k⟩:=a;obtain⟨n,l⟩:=b;obtain rfl:k=l:=ha.defs.trans hb.defs.symm
 congr 1
 apply Il;intro d;by_cases h:∃j:Nat,∃o:Oper,ops[j]? =some o/\o.dst=some d/\L j
 ·obtain⟨j,o,c,e,g⟩:=h;exact(ha.got j o d c e g).trans (hb.got j o d c e g).symm
 ·have i:∀j (o:Oper),ops[j]? =some o->o.dst=some d->¬L j:=λj o c e g=>h ⟨j,o,c,e,g⟩;exact(ha.old d i).trans (hb.old d i).symm
theorem ActIs.congr{a0 a:Act}{f g:Nat->Value}{L L':Nat->Prop}(ha:ActIs ops a0 f L a)(hL:∀j,L j↔L' j)(hf:∀j,L j->f j=g j):ActIs ops a0 g L' a:=
 ⟨ha.size,ha.defs,λj o d c e b=>by rw[ha.got j o d c e ((hL j).2 b),hf j ((hL j).2 b)],λd h=>ha.old d λj o c e b=>h j o c e ((hL j).1 b)⟩
theorem ActIs.put{a0 a:Act}{f:Nat->Value}{L:Nat->Prop}(hc:ChkG ops)(ha:ActIs ops a0 f L a){i:Nat}{o:Oper}(ho:ops[i]? =some o)(hi:¬L i):ActIs ops a0 f (λj=>L j\/j=i) (a.put o.dst (f i)):=by
 unfold Act.put;cases m:o.dst with
 | none=>
   refine⟨ha.size,ha.defs,λj l d b c g=>?_,λd h=>ha.old d λj l b c g=>h j l b c (.inl g)⟩;rcases g with g| rfl
   ·exact ha.got j l d b c g
   ·rw[ho]at b;cases b;rw[m]at c;cases c
 | some e=>
   refine⟨by simp[ha.size],ha.defs,λj l d b c g=>?_,λd h=>?_⟩
   ·show(a.tmps.setIfInBounds e (f i))[d]? =_;by_cases k:e=d
    ·subst k;obtain rfl:=hc.one i j o l e ho b m c;rw[<-ha.size];simp[Array.getElem?_setIfInBounds]
    ·rw[eK k];rcases g with g| rfl
     ·exact ha.got j l d b c g
     ·rw[ho]at b;cases b;rw[m]at c;exact absurd (Option.some.inj c) k
   ·show(a.tmps.setIfInBounds e (f i))[d]? =_;have k:e≠d:=λx=>h i o ho (by rw[m,x]) (.inr rfl);rw[eK k];exact ha.old d λj l b c g=>h j l b c (.inl g)
theorem ActIs.slot{a0 a b:Act}{f:Nat->Value}{L L':Nat->Prop}(hc:ChkG ops)(ha:ActIs ops a0 f L a)(hb:ActIs ops a0 f L' b){i:Nat}{o:Oper}(ho:ops[i]? =some o)
  (h1:∀j,Wn o j=true->L j/\L' j)(h5:∀j oj,ops[j]? =some oj->Wn oj i=true->¬L j/\¬L' j){t:Tmp}(ht:t∈o.looksAt ops):a.tmps[t]? =b.tmps[t]? :=by
 by_cases h:∃j:Nat,∃oj:Oper,ops[j]? =some oj/\oj.dst=some t
 ·obtain⟨j,oj,c,d⟩:=h;rcases hc.look i j o oj t ho c d ht with g| g
  ·have g:=h1 j g;exact(ha.got j oj t c d g.1).trans (hb.got j oj t c d g.2).symm
  ·have n:=h5 j oj c g;have one:∀m e,ops[m]? =some e->e.dst=some t->m=j:=λm e k l=>hc.one m j e oj t k c l d;exact(ha.old t λm e k l=>by rw[one m e k l];exact n.1).trans (hb.old t λm e k l=>by rw[one m e k l];exact n.2).symm
 ·exact(ha.old t λj oj c d _=>h ⟨j,oj,c,d⟩).trans (hb.old t λj oj c d _=>h ⟨j,oj,c,d⟩).symm
theorem ActIs.exec{a0 a b:Act}{f:Nat->Value}{L L':Nat->Prop}(hc:ChkG ops)(ha:ActIs ops a0 f L a)(hb:ActIs ops a0 f L' b){i:Nat}{o:Oper}(ho:ops[i]? =some o)(hs:∀cs b,o.op≠ .select cs b)
  (h1:∀j,Wn o j=true->L j/\L' j)(h5:∀j oj,ops[j]? =some oj->Wn oj i=true->¬L j/\¬L' j):execOp a.eval o=execOp b.eval o/\Region.wanted o (yielded ops a.tmps)=Region.wanted o (yielded ops b.tmps):=by
 refine⟨execOp_congr o hs λx e=>?_,?_⟩
 ·cases x with
  | tmp t=>
    have c:t∈o.looksAt ops:=List.mem_append_left _ (List.mem_filterMap.2 ⟨.tmp t,by simpa using e,rfl⟩);have:=ha.slot hc hb ho h1 h5 c;simp only[Act.eval,Jf,this]
  | _=>rfl
 ·unfold Region.wanted;cases d:o.guard with
  | none=>rfl
  | some gw=>
    obtain⟨g,k⟩:=gw;have h:yielded ops a.tmps g=yielded ops b.tmps g:=by
     unfold yielded;cases c:(ops[g]?).bind (·.dst)with
     | none=>rfl
     | some t=>
       have:=ha.slot hc hb ho h1 h5 (t:=t) (by simp[Oper.looksAt,d,c]);simp only[Option.bind_some,this]
    simp only[h]
def Wu(P:Program)(ops:Array Oper)(S:abP->Prop)(T:abP->abP->Prop)(H:Nat->abP->Prop)(o:Oper)(a:Act)(kd:Kd):Prop:=
 kd.stable T/\∀x,S x->(∀j,Wn o j=true->H j x)->if Region.wanted o (yielded ops a.tmps)=true then Ww P (λu y=>kd.fits u y/\T x y) ((execOp a.eval o).run P x)else kd.fits undef x
def wpT(P:Program)(ops:Array Oper)(S:abP->Prop)(T:abP->abP->Prop)(vs:Nat->Value)(H:Nat->abP->Prop)(Qf:Act->Prop):List Kd->Nat->List Oper->Act->Prop
 | kd :: ks,k,o :: l,a=>Wu P ops S T H o a kd/\wpT P ops S T vs H Qf ks (k+1) l (a.put o.dst (kd.val (vs k)))
 | [],_,[],a=>Qf a
 | _,_,_,_=>False
theorem WC{vs:Nat->Value}{H:Nat->abP->Prop}{Qf:Act->Prop}{a0:Act}{K:Nat->Kd}(hc:ChkG ops):∀(ks:List Kd) (k:Nat) (l:List Oper) (a:Act),wpT P ops S T vs H Qf ks k l a->(∀j,l[j]? =ops[k+j]?)->(∀j,j<ks.length->ks[j]? =some (K (k+j)))->
  ActIs ops a0 (λj=>(K j).val (vs j)) (λj=>j<k) a->
  (∀i o,k<=i->ops[i]? =some o->∃b,ActIs ops a0 (λj=>(K j).val (vs j)) (λj=>j<i) b/\Wu P ops S T H o b (K i))/\∃b,ActIs ops a0 (λj=>(K j).val (vs j)) (λj=>j<ops.size) b/\Qf b
 | kd :: ks,k,o :: l,a,h,hl,hK,hA=>by
   obtain⟨h1,h2⟩:=h;have c:ops[k]? =some o:=(hl 0).symm;have q:kd=K k:=by
    have:=hK 0 (by simp)
    simpa using this
   subst q;obtain⟨r,s⟩:=WC hc ks (k+1) l _ h2 (λj=>by have:=hl (j+1);rw[aE]at this;rw[this];congr 1;omega) (λj p=>by have:=hK (j+1) (by simpa using p);rw[aE]at this;rw[this];congr 2;omega)
    ((hA.put hc c (WQ k)).congr (λj=>by omega) (λ_ _=>rfl))
   refine⟨λi t g e=>?_,s⟩;rcases Nat.eq_or_lt_of_le g with rfl| m
   ·rw[c]at e;cases e;exact⟨a,hA,h1⟩
   ·exact r i t m e
 | [],k,[],a,h,hl,_,hA=>by
   have v:ops.size<=k:=by
    have:=hl 0;rw[List.getElem?_nil,jV]at this;exact Array.getElem?_eq_none_iff.1 this.symm
   have f:∀j o,ops[j]? =some o->j<ops.size:=λj o c=>(cZ.1 c).1;refine⟨λi o g c=>absurd (f i o c) (by omega),a,⟨hA.size,hA.defs,λj o d h1 h2 u=>hA.got j o d h1 h2 (by omega),λd n=>hA.old d λj o h1 h2 _=>n j o h1 h2 (f j o h1)⟩,h⟩
 | [],_,_ :: _,_,h,_,_,_=>by cases h
 | _ :: _,_,[],_,h,_,_,_=>by cases h
theorem WG{p q:Nat->Bool}(h:∀x,q x=true->p x=true):∀l:List Nat,(l.filter q).length<=(l.filter p).length
 | []=>ac _
 | x :: l=>by
   have:=WG h l;by_cases a:q x=true
   ·rw[List.filter_cons_of_pos a,List.filter_cons_of_pos (h x a)]
    simpa using this
   ·rw[List.filter_cons_of_neg a];by_cases b:p x=true
    ·rw[List.filter_cons_of_pos b,bM];omega
    ·rw[List.filter_cons_of_neg b];exact this
theorem WE{p q:Nat->Bool}(h:∀x,q x=true->p x=true){i:Nat}(hp:p i=true)(hq:¬q i=true):∀l:List Nat,i∈l->(l.filter q).length<(l.filter p).length
 | [],h=>by cases h
 | x :: l,hm=>by
   have hle:=WG h l;by_cases c:x=i
   ·subst c;rw[List.filter_cons_of_pos hp,List.filter_cons_of_neg hq,bM];omega
   ·have:=WE h hp hq l ((ie.1 hm).resolve_left (λe=>c e.symm));by_cases a:q x=true
    ·rw[List.filter_cons_of_pos a,List.filter_cons_of_pos (h x a)]
     simpa using this
    ·rw[List.filter_cons_of_neg a];by_cases b:p x=true
     ·rw[List.filter_cons_of_pos b,bM];omega
     ·rw[List.filter_cons_of_neg b];exact this
theorem Wt{listed:Array Bool}{j:Nat}(hj:j<listed.size)(h:listed.getD j true=false):listed.getD j false=false:=by
 simp[hj]at h⊢;exact h
theorem WI{a0:Act}{K:Nat->Kd}(hT:∀x,S x->T x x)(hST:∀x y,S x->T x y->S y)(hc:ChkG ops)(hs:Region.noSelect ops=true)(hst:∀j,(K j).stable T)
  (hcl:∀vs:Nat->Value,(∀i o,ops[i]? =some o->∃b,ActIs ops a0 (λj=>(K j).val (vs j)) (λj=>j<i) b/\Wu P ops S T (λj x=>(K j).holds (vs j) x) o b (K i))/\
    ∃b,ActIs ops a0 (λj=>(K j).val (vs j)) (λj=>j<ops.size) b/\∀x,S x->(∀j,j<ops.size->(K j).holds (vs j) x)->Q .normal b x):
  ∀(fuel:Nat) (listed:Array Bool) (a:Act) (w:abP) (vs:Nat->Value),listed.size=ops.size->((List.range ops.size).filter λi=>!listed.getD i true).length<=fuel->
   ActIs ops a0 (λj=>(K j).val (vs j)) (λj=>listed.getD j false=true) a->S w->(∀j,listed.getD j false=true->(K j).holds (vs j) w)->(∀j oj,ops[j]? =some oj->listed.getD j false=true->∀k,Wn oj k=true->listed.getD k false=true)->wpAny P .any ops Q fuel listed a w:=by
 have F:∀(listed:Array Bool) (a:Act) (w:abP) (vs:Nat->Value),listed.size=ops.size->ActIs ops a0 (λj=>(K j).val (vs j)) (λj=>listed.getD j false=true) a->S w->(∀j,listed.getD j false=true->(K j).holds (vs j) w)->(∀j,j<ops.size->listed.getD j false=true)->Q .normal a w:=by
  intro listed a w vs L B z C l;obtain⟨-,b,m,hq⟩:=hcl vs;have:a=b:=(B.congr (L':=λj=>j<ops.size) (λj=>⟨λh=>by
   rcases fj j listed.size with h'| h'
   ·omega
   ·simp[Array.getElem?_eq_none h']at h,l j⟩) (λ_ _=>rfl)).eq m
  rw[this];exact hq w z λj c=>C j (l j c)
 intro fuel
 induction fuel with
 | zero=>
   intro listed a w vs L hf B z C X;have V:=aF (Nat.le_zero.1 hf);have l:∀j,j<ops.size->listed.getD j false=true:=λj c=>by
    have:=List.filter_eq_nil_iff.1 V j (gn.2 c);simp[show j<listed.size by omega]at this⊢;exact this
   refine⟨List.eq_nil_iff_forall_not_mem.2 λj c=>?_,F listed a w vs L B z C l⟩;obtain⟨W,o,s,-⟩:=mem_ready.1 c;have H:j<ops.size:=(cZ.1 s).1;have:=l j H;rw[Wt (by omega) W]at this;cases this
 | succ fuel ih=>
   intro listed a w vs L hf B z C X;refine⟨λV=>F listed a w vs L B z C λj c=>?_,λi hi=>?_⟩
   ·induction j using Nat.strongRecOn with
    | ind j ihj=>
      cases M:listed.getD j false with
      | true=>rfl
      | false=>
        exfalso;obtain⟨o,s⟩:∃o,ops[j]? =some o:=⟨ops[j],eL c⟩;have:j∈Region.ready .any ops listed:=mem_ready.2 ⟨by
         simp[show j<listed.size by omega]at M⊢;exact M,o,s,λe A m=>by
         have:=hc.up j o s e A m;exact ihj e.on this (by omega)⟩
        rw[V]at this;cases this
   ·obtain⟨U,o,s,l⟩:=mem_ready.1 hi;have H:i<ops.size:=(cZ.1 s).1;have t:=Wt (by omega) U;have D:∀j,Wn o j=true->listed.getD j false=true/\j<i:=λj c=>by
     obtain⟨e,A,m⟩:=Array.any_eq_true'.1 c;simp only[eh,aK]at m;rw[<-m.2];exact⟨l e A m.1,hc.up i o s e A m.1⟩
    obtain⟨b,m,Y⟩:=(hcl vs).1 i o s;obtain⟨A,N⟩:=B.exec hc m s (λcs b=>Region.noSelect_spec hs i o cs b s) D λj oj c N=>⟨λh=>(by rw[X j oj c h i N]at t;cases t),λh=>by
     obtain⟨e,A,m⟩:=Array.any_eq_true'.1 N;simp only[eh,aK]at m;have:=hc.up j oj c e A m.1;omega⟩
    have d:=Y.2 w z λj c=>C j (D j c).1;have next:∀u y,(K i).fits u y->T w y->wpAny P .any ops Q fuel (listed.setIfInBounds i true) (a.put o.dst u) y:=by
     intro u y Z hy;have I:i<listed.size:=by omega
     have v:∀j,(listed.setIfInBounds i true).getD j false=true↔(listed.getD j false=true\/j=i):=λj=>by
      by_cases G:i=j
      ·subst G;simp[I]
      ·rw[getD_set_ne false G];exact⟨.inl,λh=>h.resolve_right λe=>G e.symm⟩
     have O:=(B.congr (g:=λj=>(K j).val (if j=i then u else vs j)) (λ_=>Iff.rfl) (λj c=>by
      rw[Fl (λe=>by rw[e,t]at c;cases c)])).put hc s (by rw[t];decide)
     rw[if_pos rfl,JA Z]at O;refine ih (listed.setIfInBounds i true) (a.put o.dst u) y (λj=>if j=i then u else vs j) (by rw[Array.size_setIfInBounds];exact L) ?_ (O.congr (λj=>(v j).symm) (λ_ _=>rfl)) (hST w y z hy) (λj c=>?_) (λj oj c M k E=>(v k).2 ?_)
     ·have:=WE (p:=λk=>!listed.getD k true) (q:=λk=>!(listed.setIfInBounds i true).getD k true) (λk E=>by
       by_cases R:i=k
       ·subst R;simp[I]at E
       ·rw[getD_set_ne true R]at E;exact E) (i:=i) (by simp[U]) (by simp[I]) (List.range ops.size) (gn.2 H)
      omega
     ·rcases(v j).1 c with h| rfl
      ·rw[Fl (λe=>by rw[e,t]at h;cases h)];exact hst j _ w y (C j h) hy
      ·rw[if_pos rfl];unfold Kd.holds;rw[JA Z];exact Z
     ·rcases(v j).1 M with h| rfl
      ·exact .inl (X j oj c h k E)
      ·rw[s]at c;cases c;exact .inl (D k E).1
    unfold wpOp;simp only[s];rw[N];split
    ·rename_i J;rw[if_pos J]at d;refine .inl ?_;unfold Oper.wp;rw[A];generalize (execOp b.eval o).run P w=r at*;cases r with
     | ok n w'=>
       cases n<;>simp only[Ww]at d<;>simp only[Oper.upon]
       case value u=>exact next u w' d.1 d.2
       case skip=>exact next undef w' d.1 d.2
       case enter f args=>
        refine Calls.mono d λe ad hp=>?_;obtain⟨u,rfl,W,h2⟩:=hp;exact next u ad W h2
     | halt x w'=>exact absurd d (by simp[Ww])
    ·rename_i J;rw[Fl J]at d;exact next undef w d (hT w z)
theorem yu{id:Nat}{a:Act}{w:abP}(hT:∀x,S x->T x x)(hST:∀x y,S x->T x y->S y)(ks:List Kd)(hm:P.follows .mixedOrders=true)(hS:S w.drew)
  (h:∀vs:Nat->Value,wpT P ops S T vs (λj x=>(ks.getD j (.fix undef)).holds (vs j) x) (λa'=>∀x,S x->(∀j,j<ops.size->(ks.getD j (.fix undef)).holds (vs j) x)->Q .normal a' x) ks 0 ops.toList a)
  (hB:(Region.noSelect ops&&(ks.length==ops.size&&Wx ops 0 ops.toList))=true):(Code.region id ops true).wp P Q a w:=by
 simp only[eh,aK]at hB;obtain⟨p,t,q⟩:=hB;have m:=WH q;have k:∀f:Nat->Value,ActIs ops a f (λj=>j<0) a:=λf=>⟨rfl,rfl,λj o d _ _ h=>absurd h (Nat.not_lt_zero _),λd _=>rfl⟩;have e:=λvs:Nat->Value=>WC (K:=λj=>ks.getD j (.fix undef)) m ks 0 ops.toList a (h vs) (λj=>by rw[bV];exact Array.getElem?_toList) (λj c=>by
  rw[bV,List.getElem?_eq_getElem c];simp[List.getD_eq_getElem?_getD,List.getElem?_eq_getElem c]) (k _)
 have g:∀j,(Array.replicate ops.size false).getD j false=false:=λj=>by
  rcases fj j ops.size with l| l<;>simp[l]
 refine wp_region_any hm (WI (a0:=a) (K:=λj=>ks.getD j (.fix undef)) hT hST m p (λj=>?_) (λvs=>⟨λi o s=>(e vs).1 i o (ag _) s,(e vs).2⟩) ops.size _ a _ (λ_=>undef) (by simp) ?_ ((k _).congr (λj=>by rw[g];simp) (λ_ _=>rfl)) hS (λj c=>?_) λj u _ n=>?_)
 ·rcases fj j ops.size with c| c
  ·obtain⟨b,-,r⟩:=(e λ_=>undef).1 j ops[j] (ag _) (eL c);exact r.1
  ·show(ks.getD j (.fix undef)).stable T;rw[List.getD_eq_getElem?_getD,aG (by omega)];exact Wo T undef
 ·refine aC (WJ _ _) ?_;rw[List.length_range];exact ac _
 ·rw[g]at c;cases c
 ·rw[g]at n;cases n
abbrev wpG(P:Program)(ops:Array Oper)(w0:abP):=wpT P ops (λx=>abQ w0 x) (λx y=>abQ x y)
theorem Wq{id:Nat}{a:Act}{w:abP}(ks:List Kd)(hm:P.follows .mixedOrders=true)
  (h:∀vs:Nat->Value,wpG P ops w vs (λj x=>(ks.getD j (.fix undef)).holds (vs j) x) (λa'=>∀x,abQ w x->(∀j,j<ops.size->(ks.getD j (.fix undef)).holds (vs j) x)->Q .normal a' x) ks 0 ops.toList a)
  (hB:(Region.noSelect ops&&(ks.length==ops.size&&Wx ops 0 ops.toList))=true):(Code.region id ops true).wp P Q a w:=
 yu (S:=λx=>abQ w x) (T:=λx y=>abQ x y) (λ_ _=>aq _ _) (λ_ _ b c=>Yf b c) ks hm ⟨rfl,rfl,rfl,ac _,λ_ _=>rfl⟩ h hB
theorem Wk{w0:abP}{vs:Nat->Value}{H:Nat->abP->Prop}{Qf:Act->Prop}{ks:List Kd}{k:Nat}{o:Oper}{l:List Oper}{a:Act}{v:Value}
  (hy:YieldsIf P ops (λx=>abQ w0 x) o v a)(h:wpG P ops w0 vs H Qf ks (k+1) l (a.put o.dst v)):wpG P ops w0 vs H Qf (.fix v :: ks) k (o :: l) a:=by
 refine⟨⟨Wo _ v,λx d _=>?_⟩,h⟩;rcases hy with ⟨b,c⟩ | ⟨b,c⟩
 ·rw[if_pos b,c x d];exact⟨rfl,aq _ _⟩
 ·rw[Fl (by rw[b];decide)];exact c.symm
theorem Wm{w0:abP}{vs:Nat->Value}{H:Nat->abP->Prop}{Qf:Act->Prop}{ks:List Kd}{k:Nat}{o:Oper}{l:List Oper}{a:Act}{v:Value}{f:FuncId}{args:Array Value}
  (hc:∀x,abQ w0 x->(∀j,Wn o j=true->H j x)->Calls P f args x λe y=>e= .returned v/\abQ x y)(hw:Region.wanted o (yielded ops a.tmps)=true)
  (hr:∀x,abQ w0 x->(execOp a.eval o).run P x= .ok (.enter f args) x)(h:wpG P ops w0 vs H Qf ks (k+1) l (a.put o.dst v)):wpG P ops w0 vs H Qf (.fix v :: ks) k (o :: l) a:=
 ⟨⟨Wo _ v,λx c d=>by
   rw[if_pos hw,hr x c];exact(hc x c d).mono λe y b=>⟨v,b.1,rfl,b.2⟩⟩,h⟩
theorem ab5{w0:abP}{vs:Nat->Value}{H:Nat->abP->Prop}{Qf:Act->Prop}{ks:List Kd}{k:Nat}{o:Oper}{l:List Oper}{a:Act}{f:FuncId}{args:Array Value}(R:Value->abP->Prop)(hR:(Kd.rel R).stable λx y=>abQ x y)
  (hc:∀x,abQ w0 x->(∀j,Wn o j=true->H j x)->Calls P f args x λe y=>∃u,e= .returned u/\R u y/\abQ x y)(hw:Region.wanted o (yielded ops a.tmps)=true)
  (hr:∀x,abQ w0 x->(execOp a.eval o).run P x= .ok (.enter f args) x)(h:wpG P ops w0 vs H Qf ks (k+1) l (a.put o.dst (vs k))):wpG P ops w0 vs H Qf (.rel R :: ks) k (o :: l) a:=
 ⟨⟨hR,λx b c=>by
   rw[if_pos hw,hr x b];exact hc x b c⟩,h⟩
theorem Wy{w0:abP}{vs:Nat->Value}{H:Nat->abP->Prop}{Qf:Act->Prop}{ks:List Kd}{k:Nat}{o:Oper}{l:List Oper}{a:Act}(R:Value->abP->Prop)(hR:(Kd.rel R).stable λx y=>abQ x y)
  (hw:Region.wanted o (yielded ops a.tmps)=true)(hy:∀x,abQ w0 x->(∀j,Wn o j=true->H j x)->∃u y,(execOp a.eval o).run P x= .ok (.value u) y/\R u y/\abQ x y)(h:wpG P ops w0 vs H Qf ks (k+1) l (a.put o.dst (vs k))):wpG P ops w0 vs H Qf (.rel R :: ks) k (o :: l) a:=
 ⟨⟨hR,λx e d=>by
   obtain⟨u,y,b,c⟩:=hy x e d;rw[if_pos hw,b];exact c⟩,h⟩
theorem WD{w0:abP}{vs:Nat->Value}{H:Nat->abP->Prop}{Qf:Act->Prop}{ks:List Kd}{k:Nat}{o:Oper}{l:List Oper}{a:Act}{v:Value}
  (hw:Region.wanted o (yielded ops a.tmps)=true)(hy:∀x,abQ w0 x->(∀j,Wn o j=true->H j x)->(execOp a.eval o).run P x= .ok (.value v) x)(h:wpG P ops w0 vs H Qf ks (k+1) l (a.put o.dst v)):wpG P ops w0 vs H Qf (.fix v :: ks) k (o :: l) a:=
 ⟨⟨Wo _ v,λx c b=>by
   rw[if_pos hw,hy x c b];exact⟨rfl,aq _ _⟩⟩,h⟩
theorem Wz{w0:abP}{vs:Nat->Value}{H:Nat->abP->Prop}{Qf:Act->Prop}{k:Nat}{a:Act}(h:Qf a):wpG P ops w0 vs H Qf [] k [] a:=h
end
end Go.Proofs.YtafoknnjekegkaaGreatDoor
namespace Go.Proofs.YtafoknnjekegkaaGreatDoor
open Go.RowKit Go.Proofs.Tryz
section
theorem G9(s:abO):(qE s).size<=65537:=by
 unfold qE;split
 ·unfold cQ;rw[cK,GW,fM];omega
 ·exact ag _
theorem Vm(s:abO)(w:abP)(hs:s.size<=4611686018427387904):
  abR 212 #[.string s] w (.tuple #[.string (qE s),.int .i64 (if s.size<=65535 then 0 else 2)]):=mN s w hs
theorem Uv(s:abO)(w:abP)(hs:s.size<=4611686018427387904):
  abR 145 #[.string s] w (.string (qE s)):=by
 go_enter func145,ntmps145;go_wp2_with fail;refine Yg (Vm s _ hs) λb a=>?_;generalize (if s.size<=65535 then(0:Int)else 2)=E at*;go_wp2;go_ret;exact⟨rfl,a⟩
theorem Jr(v k:Int)(l:List Pr):(tW v k l).size<=131075004:=by
 unfold tW;split
 ·exact ag _
 ·rw[GW];by_cases h:(aM k l).2=0
  ·exact(G6 k l h).2
  ·rw[Ix k l h];exact ag _
theorem Ut:∀l:List abO,(qK l).size=(l.map ByteArray.size).sum
 | []=>rfl
 | x :: l=>by rw[qK,cK,Ut l];rfl
theorem abx{x:abP}{g:Nat}{t:TypeId}(l:List abO)(hb:Bk x g t (l.map Value.string).toArray):∀(j:Nat) y,l[j]? =some y->x.cell? ⟨g,0+j,none⟩=some (.string y):=by
 intro j y h;rw[bV,hb.cell];simp[h]
theorem abY(v:Int)(p:Pk):(yK v p).size<=131140700/\(yJ v p).size<=262346900/\(yI v p).size<=262416900:=by
 have a:(yK v p).size<=131140700:=by
  unfold yK;rw[Ut];simp only[List.map,SK,Ur];have:=Jr v p.kind p.props;have:=G9 p.client;have e:i8.size=6:=rfl
  simp only[GW,fM];omega
 have b:(yJ v p).size<=262346900:=by
  unfold yJ;split
  ·rw[Ut];simp only[List.map,SK,Ur];have:=Jr v 16 p.will.props;have:=G9 p.will.topic;have:=G9 p.will.payload
   omega
  ·omega
 refine⟨a,b,?_⟩;unfold yI;split
 ·rw[Ut];simp only[List.map,SK,Ur];have:=G9 p.user;omega
 ·omega
theorem OO{v:Int}{p:Pk}(x:eR v p=0)(h2:p.kind≠2):p.kind=1/\(v=4\/v=5)/\(0<=p.alive/\p.alive<65536/\0<=p.will.qos/\p.will.qos<=2):=by
 obtain⟨b,c,e,a⟩:=nq x;have d:p.kind=1:=(aR (show decide (p.kind=1\/p.kind=2)=true from c)).resolve_right h2;refine⟨d,aR (show decide (v=4\/v=5)=true from b),?_⟩;unfold dU at a;split at a
 ·cases a
 ·split at a
  ·cases a
  ·exact aR a
theorem U5(v:Int)(p:Pk)(h:Hs)(w:abP)(ip:PkIn w w.heap.size p h)(ok:PkOk p)(h2:p.kind≠2):
  abR 100 #[.int .i64 v,pkV p h] w (.tuple #[.string (if eR v p=0 then(EY v p,(0:Int))else(⟨#[]⟩,eR v p)).1,.int .i64 (if eR v p=0 then(EY v p,(0:Int))else(⟨#[]⟩,eR v p)).2]):=by
 have q:=aa ok;have S0:=aa ((St.start w).push ip);obtain⟨B,hB⟩:∃B,(if eR v p=0 then(EY v p,(0:Int))else(⟨#[]⟩,eR v p))=B:=⟨_,rfl⟩;rw[hB];have HE:=aa hB.symm;have l0:=S0.o.ld 0 rfl;have H2:=aa h2;clear ip ok h2 hB;go_enter func100,ntmps100;go_wp2_with fail;refine Yg (Zh v p h _ (S0.o.into 0 rfl) q.o) λw1 j=>?_;have V:=aa (S0.o.below j);clear j l0
 by_cases I:eR v p=0;rotate_left
 ·have e0:(eR v p !=0)=true:=aA.2 I;have HX:Hid (B=(⟨#[]⟩,eR v p)):=aa (by rw[HE.o,Fl I]);clear I;go_wp2;go_ret2;exact⟨by rw[HX.o];rfl,V.o.kept⟩
 have HX:Hid (B=(EY v p,0)):=aa (by rw[HE.o,if_pos I]);have Y:=aa (OO I H2.o);rw[I];have aU:=aa (NA p);obtain⟨s,ab⟩:∃s,flQ p=s:=⟨_,rfl⟩;have ay:Hid (flN p=s):=aa (by rw[<-ab];exact(if_pos Y.o.1).symm);have ax:Hid (∀x:abP,abR 144 #[pkV p h] x (.int .i64 s)):=aa (λx=>by rw[<-ab];exact UZ p h x);clear ab;have az:Hid (0<=s/\s<256):=aa (by rw[<-ay.o];exact aU.o);obtain⟨vn,aE,aZ⟩:∃m:Nat,Hid (v.toNat=m)/\IntKind.u64.wrap v=(m:Int):=⟨_,aa rfl,by rw[iZ];have:=Y.o.2.1;omega⟩;obtain⟨fn,aD,a0⟩:∃m:Nat,Hid (s.toNat=m)/\IntKind.u64.wrap s=(m:Int):=⟨_,aa rfl,by rw[iZ];have:=az.o;omega⟩;obtain⟨an,aC,a1⟩:∃m:Nat,Hid (p.alive.toNat=m)/\IntKind.u64.wrap p.alive=(m:Int):=⟨_,aa rfl,by rw[iZ];have:=Y.o.2.2;omega⟩;have aV:Hid (vn<256):=aa (by have:=aE.out;have:=Y.o.2.1;omega);have aT:Hid (fn<256):=aa (by have:=aD.out;have:=az.o;omega);have aR:Hid (an<65536):=aa (by have:=aC.out;have:=Y.o.2.2;omega);have k0:=(V.o.cell 0 rfl 0).trans (cI _ _);have a3:=(V.o.cell 0 rfl 24).trans (bR _ _);clear I;go_wp2_with fail;refine Yg (UG v p.kind p.props _ rfl q.o.props h.props.a h.props.c _ (V.o.into 0 rfl).props q.o.len.2.2.2) λw2 j=>?_;have S2:=aa (V.o.below j);clear j k0 a3
 have k0:=(S2.o.cell 0 rfl 0).trans (cI _ _);have e2:(p.kind==2)=false:=ar.2 H2.o;have t:Hid (yK v p=qK [i8,⟨(Yk v.toNat 1).toArray⟩,⟨(Yk (flN p).toNat 1).toArray⟩,⟨(Yk p.alive.toNat 2).toArray⟩,tW v p.kind p.props,qE p.client]):=aa rfl;rw[aE.out,ay.o,aD.out,aC.out]at t;have Z:=aa (Jr v p.kind p.props);have W:=aa (G9 p.client);obtain⟨T,hT⟩:∃T,tW v p.kind p.props=T:=⟨_,rfl⟩;rw[hT]at t Z⊢;obtain⟨E,P⟩:∃X:abO,(⟨(Yk vn 1).toArray⟩:abO)=X:=⟨_,rfl⟩;obtain⟨F,Q⟩:∃X:abO,(⟨(Yk fn 1).toArray⟩:abO)=X:=⟨_,rfl⟩;obtain⟨G,R⟩:∃X:abO,(⟨(Yk an 2).toArray⟩:abO)=X:=⟨_,rfl⟩;obtain⟨S,K⟩:∃X:abO,qE p.client=X:=⟨_,rfl⟩;rw[P,Q,R,K]at t;rw[K]at W;have aB:Hid (E.size=1/\F.size=1/\G.size=2):=aa ⟨by rw[<-P,GW,fM],by rw[<-Q,GW,fM],by rw[<-R,GW,fM]⟩;have P1:=aa (λx:abP=>pD vn 1 x (by have:=aV.o;omega) (by omega) (by omega));have P2:=aa (λx:abP=>pD fn 1 x (by have:=aT.o;omega) (by omega) (by omega));have P3:=aa (λx:abP=>pD an 2 x (by have:=aR.o;omega) (by omega) (by omega));have P4:=aa (λx:abP=>Uv p.client x (by have:=q.o.texts;omega));rw[P]at P1;rw[Q]at P2;rw[R]at P3;rw[K]at P4;clear hT P Q R K;have hN:(⟨#[0,4,77,81,84,84]⟩:abO)=i8:=rfl;rw[show((1:Nat):Int)=1 from rfl]at P1 P2;rw[show((2:Nat):Int)=2 from rfl]at P3;go_wp2_with fail;rw[hN];clear hN;go_cut [9] (λa wx=>a= .string (yK v p)/\St w [(w.heap.size,p,h)] wx)
 case first=>
  have r:Hid (∀x,abQ w2 x->St w [(w.heap.size,p,h)] x):=aa (λx d=>S2.o.below d);have i:Hid (∀x,abQ w2 x->(kZ (.pointer (some ⟨w.heap.size,0,none⟩))).run prog x= .ok (pkV p h) x/\x.cell? ⟨w.heap.size,8,none⟩=some (.int .i64 p.alive)/\x.cell? ⟨w.heap.size,9,none⟩=some (.string p.client)):=aa (λx d=>⟨(r.o x d).ld 0 rfl,((r.o x d).cell 0 rfl 8).trans (dp _ _),((r.o x d).cell 0 rfl 9).trans (dn _ _)⟩);apply Wq
  ·kernel_rfl
  ·intro vs
   repeat (apply Wk
           focus (refine Or.inl ⟨rfl,λx d=>?_⟩;have l:=i.o x d;go_simp;(try with_reducible rfl);done)
           try simp only[Act.put,af,am,ak])
   apply Wm (λx d _=>P1.o x)
   ·rfl
   ·intro x d;have l:=i.o x d;go_simp
   repeat (apply Wk
           focus (refine Or.inl ⟨rfl,λx d=>?_⟩;have l:=i.o x d;go_simp;(try with_reducible rfl);done)
           try simp only[Act.put,af,am,ak])
   apply Wm (λx d _=>ax.o x)
   ·rfl
   ·intro x d;have l:=i.o x d;go_simp
   repeat (apply Wk
           focus (refine Or.inl ⟨rfl,λx d=>?_⟩;have l:=i.o x d;go_simp;(try with_reducible rfl);done)
           try simp only[Act.put,af,am,ak])
   apply Wm (λx d _=>P2.o x)
   ·rfl
   ·intro x d;have l:=i.o x d;go_simp
   repeat (apply Wk
           focus (refine Or.inl ⟨rfl,λx d=>?_⟩;have l:=i.o x d;go_simp;(try with_reducible rfl);done)
           try simp only[Act.put,af,am,ak])
   apply Wm (λx d _=>P3.o x)
   ·rfl
   ·intro x d;have l:=i.o x d;go_simp
   repeat (apply Wk
           focus (refine Or.inl ⟨rfl,λx d=>?_⟩;have l:=i.o x d;go_simp;(try with_reducible rfl);done)
           try simp only[Act.put,af,am,ak])
   apply Wm (λx d _=>P4.o x)
   ·rfl
   ·intro x d;have l:=i.o x d;go_simp
   apply Wy (λu y=>∃g,u= .slice (some ⟨g,0,none⟩) 6 6/\Bk y g 9 #[.string i8,.string E,.string F,.string G,.string T,.string S]) (λu x y h j=>by obtain⟨g,H,h2⟩:=h;exact⟨g,H,Yh h2 j⟩)
   ·rfl
   ·intro x d _;refine⟨_,_,?_,⟨x.heap.size,rfl,Bk.fresh x _ _⟩,(aq x.heap.size x).alloc (ac _) (.cells #[.string i8,.string E,.string F,.string G,.string T,.string S] 9)⟩;go_simp
   apply Wm (f:=143) (args:=#[vs 15]) (v:=.string (qK [i8,E,F,G,T,S]))
   ·intro x d hH;obtain⟨g,H,h2⟩:=(show ∃g,vs 15= .slice (some ⟨g,0,none⟩) 6 6/\Bk x g 9 #[.string i8,.string E,.string F,.string G,.string T,.string S]from hH 15 (by kernel_rfl));rw[H];exact Uu [i8,E,F,G,T,S] 6 6 g 0 rfl x (abx [i8,E,F,G,T,S] h2) h2.lt (by omega) (by omega) (by rw[Ut];simp only[List.map,SK,Ur];have:i8.size=6:=rfl;have:=aB.o;have:=Z.o;have:=W.o;omega)
   ·rfl
   ·intro x d;have l:=i.o x d;go_simp
   repeat (apply Wk
           focus (refine Or.inl ⟨rfl,λx d=>?_⟩;have l:=i.o x d;go_simp;(try with_reducible rfl);done)
           try simp only[Act.put,af,am,ak])
   apply Wz;intro x d _;go_wp2;go_meet
   case rel=>exact⟨by rw[t.o],r.o x d⟩
  ·kernel_rfl
 obtain⟨rfl,o⟩:=hcut;have n:=aa o;have A:Hid (yJ v p=if p.hasWill=true then qK [yK v p,tW v 16 p.will.props,qE p.will.topic,qE p.will.payload]else yK v p):=aa rfl;have C:Hid (yI v p=if p.hasUser=true then qK [yJ v p,qE p.user]else yJ v p):=aa rfl;have J:Hid (EY v p=if p.hasPass=true then qK [yI v p,qE p.pass]else yI v p):=aa rfl;have HZ:=aa (abY v p);clear t S0 V S2 o Z W aB P1 P2 P3 P4 ax aZ a0 a1;obtain⟨U,L⟩:∃O,yK v p=O:=⟨_,rfl⟩;obtain⟨O2,M⟩:∃O,yJ v p=O:=⟨_,rfl⟩;obtain⟨O3,N⟩:∃O,yI v p=O:=⟨_,rfl⟩;rw[L,M,N]at HZ;rw[L,M]at A;rw[M,N]at C;rw[N]at J;rw[L];clear L M N;have aG:=(n.o.cell 0 rfl 14).trans (YM _ _);obtain⟨wb,aF⟩:∃b,p.hasWill=b:=⟨_,rfl⟩;rw[aF]at aG A;clear aF
 go_upto_if 53 with fail
 clear aG;go_cut [9] (λa wx=>a= .string O2/\St w [(w.heap.size,p,h)] wx)
 case first=>
  cases wb
  ·go_wp2;go_meet
   case rel=>exact⟨by rw[A.o];rfl,n.o⟩
  have aW:Hid ((tW v 16 p.will.props).size<=131075004/\(qE p.will.topic).size<=65537/\(qE p.will.payload).size<=65537):=aa ⟨Jr _ _ _,G9 _,G9 _⟩;have W1:=aa (fun(x:abP) hr=>UG v 16 p.will.props _ rfl q.o.wp h.wp.a h.wp.c x hr q.o.len.1);have W2:=aa (λx:abP=>Uv p.will.topic x (by have:=q.o.texts;omega));have W3:=aa (λx:abP=>Uv p.will.payload x (by have:=q.o.texts;omega));generalize tW v 16 p.will.props=WT at*;generalize qE p.will.topic=WA at*;generalize qE p.will.payload=WB at*;have r:Hid (∀x,abQ wc x->St w [(w.heap.size,p,h)] x):=aa (λx d=>n.o.below d);have i:Hid (∀x,abQ wc x->x.cell? ⟨w.heap.size,19,none⟩=some (.slice h.wp.a p.will.props.length h.wp.c)/\x.cell? ⟨w.heap.size,15,none⟩=some (.string p.will.topic)/\x.cell? ⟨w.heap.size,16,none⟩=some (.string p.will.payload)):=aa (λx d=>⟨((r.o x d).cell 0 rfl 19).trans (YL _ _),((r.o x d).cell 0 rfl 15).trans (cz _ _),((r.o x d).cell 0 rfl 16).trans (cy _ _)⟩);go_wp2_with fail;apply Wq
  ·kernel_rfl
  ·intro vs
   repeat (apply Wk
           focus (refine Or.inl ⟨rfl,λx d=>?_⟩;have l:=i.o x d;go_simp;(try with_reducible rfl);done)
           try simp only[Act.put,af,am,ak])
   apply Wm (λx d _=>W1.o x ((r.o x d).into 0 rfl).wp)
   ·rfl
   ·intro x d;have l:=i.o x d;go_simp
   repeat (apply Wk
           focus (refine Or.inl ⟨rfl,λx d=>?_⟩;have l:=i.o x d;go_simp;(try with_reducible rfl);done)
           try simp only[Act.put,af,am,ak])
   apply Wm (λx d _=>W2.o x)
   ·rfl
   ·intro x d;have l:=i.o x d;go_simp
   repeat (apply Wk
           focus (refine Or.inl ⟨rfl,λx d=>?_⟩;have l:=i.o x d;go_simp;(try with_reducible rfl);done)
           try simp only[Act.put,af,am,ak])
   apply Wm (λx d _=>W3.o x)
   ·rfl
   ·intro x d;have l:=i.o x d;go_simp
   apply Wy (λu y=>∃g,u= .slice (some ⟨g,0,none⟩) 4 4/\Bk y g 9 #[.string U,.string WT,.string WA,.string WB]) (λu x y h j=>by obtain⟨g,H,h2⟩:=h;exact⟨g,H,Yh h2 j⟩)
   ·rfl
   ·intro x d _;refine⟨_,_,?_,⟨x.heap.size,rfl,Bk.fresh x _ _⟩,(aq x.heap.size x).alloc (ac _) (.cells #[.string U,.string WT,.string WA,.string WB] 9)⟩;go_simp
   apply Wm (f:=143) (args:=#[vs 14]) (v:=.string (qK [U,WT,WA,WB]))
   ·intro x d hH;obtain⟨g,H,h2⟩:=(show ∃g,vs 14= .slice (some ⟨g,0,none⟩) 4 4/\Bk x g 9 #[.string U,.string WT,.string WA,.string WB]from hH 14 (by kernel_rfl));rw[H];exact Uu [U,WT,WA,WB] 4 4 g 0 rfl x (abx [U,WT,WA,WB] h2) h2.lt (by omega) (by omega) (by rw[Ut];simp only[List.map,SK,Ur];have:=HZ.o;have:=aW.o;omega)
   ·rfl
   ·intro x d;have l:=i.o x d;go_simp
   repeat (apply Wk
           focus (refine Or.inl ⟨rfl,λx d=>?_⟩;have l:=i.o x d;go_simp;(try with_reducible rfl);done)
           try simp only[Act.put,af,am,ak])
   apply Wz;intro x d _;go_wp2;go_meet
   case rel=>exact⟨by rw[A.o];rfl,r.o x d⟩
  ·kernel_rfl
 obtain⟨rfl,o⟩:=hcut;clear n A;have n:=aa o;clear o;have k:=(n.o.cell 0 rfl 10).trans (bW _ _);obtain⟨b,j⟩:∃b,p.hasUser=b:=⟨_,rfl⟩;rw[j]at k C;clear j
 go_upto_if 71 with fail
 clear k;go_cut [9] (λa wx=>a= .string O3/\St w [(w.heap.size,p,h)] wx)
 case first=>
  cases b
  ·go_wp2;go_meet
   case rel=>exact⟨by rw[C.o];rfl,n.o⟩
  ·have f:=(n.o.cell 0 rfl 11).trans (co _ _);go_wp2_with fail;refine Yg (Uv p.user _ (by have:=q.o.texts;omega)) λy j=>?_;have SA:=aa (n.o.below j);clear j f
   have D:=aa (G9 p.user);generalize qE p.user=X at*;have SB:=aa (SA.o.alloc (.cells #[.string O2,.string X] 9));go_wp2_with fail;refine Yg (Uu [O2,X] 2 2 y.heap.size 0 rfl _ (abx [O2,X] (Bk.fresh y _ _)) (by simp) (by omega) (by omega) (by rw[Ut];simp only[List.map,SK,Ur];have:=HZ.o;have:=D.o;omega)) λz j=>?_;have SY:=aa (SB.o.below j);clear j
   go_wp2;go_meet
   case rel=>exact⟨by rw[C.o];rfl,SY.o⟩
 obtain⟨rfl,o⟩:=hcut;clear n C;have n:=aa o;clear o;have k:=(n.o.cell 0 rfl 12).trans (YK _ _);obtain⟨b,j⟩:∃b,p.hasPass=b:=⟨_,rfl⟩;rw[j]at k J;clear j;cases b
 ·go_wp2;go_ret2;exact⟨by rw[HX.o,J.o];rfl,n.o.kept⟩
 ·have f:=(n.o.cell 0 rfl 13).trans (bZ _ _);go_wp2_with fail;refine Yg (Uv p.pass _ (by have:=q.o.texts;omega)) λy j=>?_;have SA:=aa (n.o.below j);clear j f
  have D:=aa (G9 p.pass);generalize qE p.pass=X at*;have SB:=aa (SA.o.alloc (.cells #[.string O3,.string X] 9));go_wp2_with fail;refine Yg (Uu [O3,X] 2 2 y.heap.size 0 rfl _ (abx [O3,X] (Bk.fresh y _ _)) (by simp) (by omega) (by omega) (by rw[Ut];simp only[List.map,SK,Ur];have:=HZ.o;have:=D.o;omega)) λz j=>?_;have SY:=aa (SB.o.below j);clear j
  go_wp2;go_ret2;exact⟨by rw[HX.o,J.o];rfl,SY.o.kept⟩
theorem aap(v:Int)(p:Pk)(h:Hs)(w:abP)(ip:PkIn w w.heap.size p h)(ok:PkOk p):
  abR 100 #[.int .i64 v,pkV p h] w (.tuple #[.string (Dm v p).1,.int .i64 (Dm v p).2]):=by
 by_cases a:p.kind=2
 ·have b:Dm v p=Fg v p:=if_pos a;rw[b];exact U4 v p h w ip ok a
 ·have b:Dm v p=if eR v p=0 then(EY v p,0)else(⟨#[]⟩,eR v p):=Fl a;rw[b];exact U5 v p h w ip ok a
theorem VJ{v:Int}{p:Pk}(x:eR v p≠0):Dm v p=(⟨#[]⟩,eR v p):=by
 unfold Dm Fg;rw[Fl x,Fl x];split<;>rfl
def qH(k:Int):Bool:=decide (12<=k/\k<=15)
def fO(v k:Int):Bool:=decide ((k=14\/k=15)/\v=5)
def jR(v k:Int):Int:=if qH k=false\/¬(v=4\/v=5)then 2 else if k=15/\v=4 then 8 else 0
def conQ(v:Int)(p:Pk):Pk:=if fO v p.kind=true then aP p.kind 0 p.code p.props else aP p.kind 0 0 []
def fH(v:Int)(p:Pk):Int:=
 if jR v p.kind≠0 then jR v p.kind
 else if fO v p.kind=true/\may p.kind p.code=false then 2
 else if p≠conQ v p then 2
 else(aM p.kind p.props).2
def xV(code:Int)(l:List Pr)(k:Int):List UInt8:=if code<0\/255<code\/(aM k l).2≠0 then []else oG k code l
def Yq(v:Int)(p:Pk):List UInt8×Int:=if fH v p=0 then(xV p.code p.props p.kind,0)else([],fH v p)
def pK(k:Int)(s:abO):Int:=if(dg k s 0).2.2.2≠0 then(dg k s 0).2.2.2 else if(dg k s 0).2.2.1<s.size then 5 else 0
def iO(k:Int)(s:abO):Int×List Pr×Int:=if pK k s≠0 then(0,[],pK k s)else((dg k s 0).1,(dg k s 0).2.1,0)
def fA(v k:Int)(s:abO):Int×List Pr×Int:=if fO v k=true then iO k s else(0,[],if s.size≠0 then 5 else 0)
def fN(v k:Int)(s:abO):Pk:=aP k 0 (fA v k s).1 (fA v k s).2.1
def gX(v k:Int)(s:abO):Pk×Int:=
 if jR v k≠0 then(pk0,jR v k)
 else if(fA v k s).2.2≠0 then(pk0,(fA v k s).2.2)
 else if fH v (fN v k s)≠0 then(pk0,fH v (fN v k s))
 else(fN v k s,0)
structure ConGood (v:Int) (p:Pk):Prop where
 k:jR v p.kind=0
 may:fO v p.kind=true->may p.kind p.code=true
 old:fO v p.kind=false->p.code=0/\p.props=[]
 same:p=conQ v p
 c1:0<=p.code
 c2:p.code<256
 bytes:(aM p.kind p.props).2=0
theorem Ap{v:Int}{p:Pk}(x:fH v p=0):ConGood v p:=by
 unfold fH at x;split at x
 ·next h=>exact absurd x h
 ·next hk=>
  split at x
  ·cases x
  ·next hm=>
   split at x
   ·cases x
   ·next hs=>
    have a:=aU.1 hs;have c:fO v p.kind=false->p.code=0/\p.props=[]:=λf=>by
     have c:conQ v p=aP p.kind 0 0 []:=by unfold conQ;rw[Fl (by rw[f];decide)]
     rw[c]at a;exact⟨congrArg Pk.code a,congrArg Pk.props a⟩
    have b:fO v p.kind=true->Go.Proofs.YtafoknnjekegkaaGreatDoor.may p.kind p.code=true:=λg=>by
     cases e:Go.Proofs.YtafoknnjekegkaaGreatDoor.may p.kind p.code
     ·exact absurd ⟨g,e⟩ hm
     ·rfl
    have d:0<=p.code/\p.code<256:=by
     cases e:fO v p.kind
     ·have:=(c e).1;omega
     ·exact Yp (b e)
    exact⟨aU.1 hk,b,c,a,d.1,d.2,x⟩
theorem ConGood.ok{v:Int}{p:Pk}(x:ConGood v p):fH v p=0:=by
 unfold fH;rw[Fl (λh=>h x.k),Fl,Fl (λh=>h x.same)]
 ·exact x.bytes
 ·rintro ⟨b,a⟩;rw[x.may b]at a;cases a
theorem ConGood.tail{v:Int}{p:Pk}(x:ConGood v p):xV p.code p.props p.kind=oG p.kind p.code p.props:=by
 unfold xV;rw[Fl];rintro (h| h| h)
 ·have:=x.c1;omega
 ·have:=x.c2;omega
 ·exact h x.bytes
theorem we{v k:Int}{s:abO}(h:(fA v k s).2.2=0):oG k (fA v k s).1 (fA v k s).2.1=ls s:=by
 unfold fA at h⊢;cases e:fO v k
 ·rw[e,Fl (by decide)]at h;rw[Fl (by decide)];have d:s.size=0:=aU.1 λx=>by simp only at h;rw[if_pos x]at h;cases h
  have:ls s=[]:=aF (by rw[aN];exact d);rw[this];rfl
 ·rw[e,if_pos rfl]at h;rw[if_pos rfl];unfold iO at h⊢;have b:pK k s=0:=aU.1 λx=>by rw[if_pos x]at h;exact x h
  rw[Fl (λx=>x b)];unfold pK at b;have c:(dg k s 0).2.2.2=0:=aU.1 λx=>by rw[if_pos x]at b;exact x b
  rw[Fl (λx=>x c)]at b;have f:¬(dg k s 0).2.2.1<s.size:=λx=>by rw[if_pos x]at b;cases b
  have:=(rM (k:=k) (t:=s) (a:=0) (by omega) c (by omega)).1;rw[Yl]at this;exact this.symm
theorem An(v k:Int)(s:abO):(gX v k s=(pk0,(gX v k s).2)/\(gX v k s).2≠0)\/
  ((gX v k s).2=0/\ConGood v (gX v k s).1/\(gX v k s).1.kind=k/\xV (gX v k s).1.code (gX v k s).1.props (gX v k s).1.kind=ls s):=by
 unfold gX;by_cases c:jR v k≠0
 ·rw[if_pos c];exact .inl ⟨rfl,c⟩
 rw[Fl c];by_cases a:(fA v k s).2.2≠0
 ·rw[if_pos a];exact .inl ⟨rfl,a⟩
 rw[Fl a];by_cases b:fH v (fN v k s)≠0
 ·rw[if_pos b];exact .inl ⟨rfl,b⟩
 rw[Fl b];have g:=Ap (aU.1 b);refine .inr ⟨rfl,g,rfl,?_⟩;simp only;rw[g.tail];exact we (aU.1 a)
theorem mA{v k:Int}{s:abO}(hs:s.size<=140737488351232):(∀p∈(fA v k s).2.1,qc p)/\(fA v k s).2.1.length<=1000:=by
 unfold fA;split
 ·unfold iO;split
  ·exact⟨by simp,ag _⟩
  ·exact⟨nN hs,nM k s 0⟩
 ·exact⟨by simp,ag _⟩
theorem EO{v k:Int}{s:abO}(hs:s.size<=140737488351232):PkOk (gX v k s).1:=by
 have b:PkOk (fN v k s):=iw (mA hs).1 (by have:=(mA (v:=v) (k:=k) hs).2;omega);have a:PkOk pk0:=iw (k:=0) (i:=0) (c:=0) (l:=[]) (by simp) (by simp);unfold gX;split
 ·exact a
 ·split
  ·exact a
  ·split
   ·exact a
   ·exact b
end
end Go.Proofs.YtafoknnjekegkaaGreatDoor
namespace Go.Proofs.YtafoknnjekegkaaGreatDoor
open Go.RowKit Go.Shelf
open Go.Proofs.Tryz
def lvs(s:abO):List abO:=Lib.splitB ⟨#[47]⟩ 0 (Lib.countB s ⟨#[47]⟩) s
theorem lW(l:List UInt8)(c:UInt8)(j:Nat):Lib.occAt l [c] j=(l[j]? ==some c):=by
 unfold Lib.occAt;rw[<-List.head?_drop];cases l.drop j with
 | nil=>rfl
 | cons b t=>
   rw[eG];simp[List.isPrefixOf];exact eq_comm
theorem ZS{l:List UInt8}{c:UInt8}{i:Nat}(h:l[i]? =some c)(hn:∀j,j<i->l[j]? ≠some c):Lib.index l [c]=i:=by
 refine Lib.index_first ?_ ?_ ?_
 ·have:=(YI.1 h).1;omega
 ·rw[lW,h];simp
 ·intro j a;rw[lW];simpa using hn j a
theorem xc{l:List UInt8}{c:UInt8}(hn:∀j:Nat,l[j]? ≠some c):Lib.index l [c]= -1:=
 Lib.index_none λj _=>by rw[lW];simpa using hn j
theorem Cm{s:abO}(h:∀j:Nat,(ls s)[j]? ≠some 47):lvs s=[s]:=Lib.splitB_miss _ _ _ _ (xc h)
theorem Er{s:abO}{i:Nat}(h:(ls s)[i]? =some 47)(hn:∀j:Nat,j<i->(ls s)[j]? ≠some 47):lvs s=s.extract 0 i :: lvs (s.extract (i+1) s.size):=by
 have a:Lib.indexB s ⟨#[47]⟩=i:=ZS h hn;have b:=Lib.countB_hit s ⟨#[47]⟩ i (by decide) a;unfold lvs;rw[b,Nat.add_comm 1,Lib.splitB_hit _ _ _ _ i a];rfl
theorem Zg(s:abO):(lvs s).length=Lib.countB s ⟨#[47]⟩+1:=Lib.splitB_all _ (by decide) 0 _ s rfl
theorem Eo(s:abO):(lvs s).length<=s.size+1:=by
 have:=Lib.countB_le ⟨#[47]⟩ (by decide) s.size s (ac _);rw[Zg];omega
theorem xk(s:abO):(∀j:Nat,(ls s)[j]? ≠some 47)\/∃i,i<s.size/\(ls s)[i]? =some 47/\∀j:Nat,j<i->(ls s)[j]? ≠some 47:=by
 rcases Lib.index_spec (ls s) [47]with ⟨-,h⟩ | ⟨i,-,-,h,e⟩
 ·left;intro j a;have b:=(YI.1 a).1;have:=h j (by omega);rw[lW,a]at this;simp at this
 ·right;rw[lW]at h;have c:(ls s)[i]? =some 47:=by simpa using h
  have b:=(YI.1 c).1;refine⟨i,by rw[aN]at b;exact b,c,λj a d=>?_⟩;have:=e j a;rw[lW,d]at this;simp at this
theorem Ep{C:abO->Prop}(h1:∀s,(∀j:Nat,(ls s)[j]? ≠some 47)->C s)
  (h2:∀s i,i<s.size->(ls s)[i]? =some 47->(∀j:Nat,j<i->(ls s)[j]? ≠some 47)->C (s.extract (i+1) s.size)->C s)(s:abO):C s:=by
 suffices h:∀n (t:abO),t.size<=n->C t from h s.size s (ac _)
 intro n
 induction n with
 | zero=>
   intro t d;refine h1 t λj b=>?_;have:=(YI.1 b).1;rw[aN]at this;omega
 | succ n ih=>
   intro t d;rcases xk t with h| ⟨i,a,h,c⟩
   ·exact h1 t h
   ·exact h2 t i a h c (ih _ (by rw[aj];omega))
theorem YD(s:abO):∀x∈lvs s,x.size<=s.size:=by
 induction s using Ep with
 | h1 s h=>rw[Cm h];intro x a;simp at a;rw[a];exact ac _
 | h2 s i hi h hn ih=>
   rw[Er h hn];intro x a;rcases ie.1 a with rfl| a
   ·rw[aj];omega
   ·have:=ih x a;rw[aj]at this;omega
theorem P8(s:abO):lvs s≠[]:=λh=>by have:=Zg s;rw[h]at this;simp at this
def mi(x:abO):Bool:=(x.toList==[43]) || (x.toList==[35])
def j8(x:abO)(last:Bool):Bool:=!(((x.toList==[35])&& !last) || (!mi x&&mg x))
def jk(l:List abO):Bool:=(List.range l.length).all λi=>j8 (l.getD i ⟨#[]⟩) (decide (i+1=l.length))
def gj(s:abO):Bool:=jY s&&jk (lvs s)
theorem aa1{l:List abO}(h:∀i x,l[i]? =some x->j8 x (decide (i+1=l.length))=true):jk l=true:=by
 unfold jk;rw[dL];intro i a;have a:=gn.1 a;rw[List.getD_eq_getElem?_getD,List.getElem?_eq_getElem a];exact h i _ (List.getElem?_eq_getElem a)
theorem yA{l:List abO}{i:Nat}{x:abO}(hx:l[i]? =some x)(h:j8 x (decide (i+1=l.length))=false):jk l=false:=by
 unfold jk;rw[List.all_eq_false];have a:=(YI.1 hx).1;refine⟨i,gn.2 a,?_⟩;rw[List.getD_eq_getElem?_getD,hx];simp[h]
def Ju(x:abO)(last:Bool):Bool:=!((Hh (ls x) 43&& !(x.toList==[43])) || (Hh (ls x) 35&&(!(x.toList==[35]) || !last)))
theorem Gc(x:abO):x.toList=ls x:=Lib.toList_data x
theorem KV(x:abO)(last:Bool):Ju x last=j8 x last:=by
 unfold Ju j8 mi;rw[Ky,Gc];generalize ls x=l;by_cases a:l=[43]
 ·subst a;cases last<;>rfl
 ·by_cases b:l=[35]
  ·subst b;cases last<;>rfl
  ·rw[ar.2 a,ar.2 b];cases Hh l 43<;>cases Hh l 35<;>rfl
def jt:List abO->List UInt8
 | []=>[]
 | x :: l=>47 :: (ls x++jt l)
def jn:List abO->List UInt8
 | []=>[]
 | x :: l=>ls x++jt l
theorem Ou:∀l m,jt (l++m)=jt l++jt m
 | [],_=>rfl
 | x :: l,m=>by rw[IJ,jt,jt,Ou l m];simp
theorem PF(l:List abO)(x:abO):jn (l++[x])=if l=[]then ls x else jn l++47 :: ls x:=by
 cases l with
 | nil=>simp[jn,jt]
 | cons y l=>rw[Fl (by simp),IJ,jn,jn,Ou];simp[jt]
theorem On{s:abO}{i:Nat}(h:(ls s)[i]? =some 47):ls s=ls (s.extract 0 i)++47 :: ls (s.extract (i+1) s.size):=by
 have a:ls (s.extract 0 i)=(ls s).take i:=by
  show(s.extract 0 i).data.toList=_;rw[Lib.extract_from_zero];rfl
 have b:ls (s.extract (i+1) s.size)=(ls s).drop (i+1):=by
  show(s.extract (i+1) s.size).data.toList=_;rw[Lib.extract_to_end];rfl
 obtain⟨d,c⟩:=YI.1 h;rw[a,b,<-c,<-bQ d,cg]
theorem Ov(s:abO):jn (lvs s)=ls s:=by
 induction s using Ep with
 | h1 s h=>rw[Cm h];simp[jn,jt]
 | h2 s i hi h hn ih=>
   rw[Er h hn,On h];generalize a:lvs (s.extract (i+1) s.size)=L at*;cases L with
   | nil=>exact absurd a (P8 _)
   | cons y l=>rw[jn,jt];rw[jn]at ih;rw[ih]
end Go.Proofs.YtafoknnjekegkaaGreatDoor
namespace Go.Proofs.YtafoknnjekegkaaGreatDoor
open Go.RowKit Go.Shelf
open Go.Proofs.Tryz
theorem Lc(s:abO)(p:Nat):s.get! p=((ls s)[p]?).getD 0:=by
 by_cases h:p<s.size
 ·rw[List.getElem?_eq_getElem (by rw[aN];exact h),Cz s p h];rfl
 ·rw[aG (by rw[aN];omega)];have a:¬p<s.data.size:=h;show s.data[p]! =_;show s.data[p]! =0;rw[Array.getElem!_eq_getD,Jf,Array.getElem?_eq_none (by omega)];rfl
theorem ix(s:abO)(i:Nat):ls (s.extract 0 i)=(ls s).take i:=by
 show(s.extract 0 i).data.toList=_;rw[Lib.extract_from_zero];rfl
theorem Y9(s:abO)(a:Nat):ls (s.extract a s.size)=(ls s).drop a:=by
 show(s.extract a s.size).data.toList=_;rw[Lib.extract_to_end];rfl
theorem II(s:abO)(a p:Nat):(s.extract a s.size).get! p=s.get! (a+p):=by
 rw[Lc,Lc,Y9,List.getElem?_drop]
theorem Jj(s:abO){i p:Nat}(h:p<i):(s.extract 0 i).get! p=s.get! p:=by
 rw[Lc,Lc,ix,List.getElem?_take,if_pos h]
theorem aa7(s:abO)(a p:Nat):Utf8.decode (s.extract a s.size) p=Utf8.decode s (a+p):=by
 rw[Lib.decode_at,Lib.decode_at,II,II,II,II,aj,show min s.size s.size- a- p=s.size- (a+p) by omega];rfl
theorem rJ(s:abO)(a:Nat):(s.extract a s.size).size=s.size- a:=by rw[aj];omega
theorem Js(s:abO){i:Nat}(h:i<=s.size):(s.extract 0 i).size=i:=by rw[aj];omega
theorem Lk(s:abO):∀f f' pos,s.size<=pos+f->s.size<=pos+f'->xD f s pos=xD f' s pos
 | 0,0,_,_,_=>rfl
 | 0,f'+1,pos,h,_=>by rw[xD,xD,Fl (by omega)]
 | f+1,0,pos,_,h=>by rw[xD,xD,Fl (by omega)]
 | f+1,f'+1,pos,h,h'=>by
   rw[xD,xD];by_cases hp:pos<s.size
   ·rw[if_pos hp,if_pos hp];have hw:=Lib.decode_width_pos s pos hp;rw[Lk s f f' _ (by omega) (by omega)]
   ·rw[Fl hp,Fl hp]
theorem Ll(s:abO)(a:Nat):∀f p,(xD f (s.extract a s.size) p= -1↔xD f s (a+p)= -1)
 | 0,_=>Iff.rfl
 | f+1,p=>by
   rw[xD,xD,rJ,aa7];by_cases hp:a+p<s.size
   ·rw[if_pos (by omega),if_pos hp];by_cases hb:(Utf8.decode s (a+p)).1=0\/((Utf8.decode s (a+p)).1=65533/\(Utf8.decode s (a+p)).2=1)
    ·rw[if_pos hb,if_pos hb];omega
    ·rw[Fl hb,Fl hb,Ll s a f,Nat.add_assoc]
   ·rw[Fl (by omega),Fl hp]
theorem JT(s:abO){pos i:Nat}(hlt:pos<i)(h:(s.get! i).toNat<128):pos+(Utf8.decode s pos).2<=i:=by
 rcases tw s pos with ⟨e,-⟩ | ⟨-,-,b⟩
 ·rw[e];exact hlt
 ·by_cases a:pos+(Utf8.decode s pos).2<=i
  ·exact a
  ·have:=b (i- pos) (by omega);rw[show pos+(i- pos)=i by omega]at this;omega
theorem Lj(s:abO)(i:Nat)(hi:i<s.size)(h:(s.get! i).toNat<128):∀f pos,s.size<=pos+f->pos<=i->xD f s pos= -1->∃f',s.size<=i+f'/\xD f' s i= -1
 | 0,pos,hf,hp,_=>by omega
 | f+1,pos,hf,hp,hb=>by
   by_cases he:pos=i
   ·subst he;exact⟨f+1,hf,hb⟩
   ·have hw:=Lib.decode_width_pos s pos (by omega);have a:=JT s (pos:=pos) (by omega) h;rw[xD,if_pos (by omega)]at hb;split at hb
    ·omega
    ·exact Lj s i hi h f _ (by omega) a hb
theorem OE{n n' b0 b1 b2 b3 c1 c2 c3:Nat}(hb:Lib.decodeN n b0 b1 b2 b3≠(65533,1))(hw:(Lib.decodeN n b0 b1 b2 b3).2<=n')
  (h1:1<(Lib.decodeN n b0 b1 b2 b3).2->c1=b1)(h2:2<(Lib.decodeN n b0 b1 b2 b3).2->c2=b2)(h3:3<(Lib.decodeN n b0 b1 b2 b3).2->c3=b3):
  Lib.decodeN n' b0 c1 c2 c3=Lib.decodeN n b0 b1 b2 b3:=by
 rcases Lib.decodeN_shape n b0 b1 b2 b3 with ⟨a,e⟩ | ⟨a,g,b,c,e⟩ | ⟨a,g,b,c,d,f,e⟩ | ⟨a,g,b,c,d,f,h,e⟩ | e
 ·rw[e];unfold Lib.decodeN;rw[if_pos a]
 ·rw[e]at hw h1⊢;rw[h1 (by simp)];exact PY a hw b c
 ·rw[e]at hw h1 h2⊢;rw[h1 (by simp),h2 (by simp)];exact OH a hw b c d f
 ·rw[e]at hw h1 h2 h3⊢;rw[h1 (by simp),h2 (by simp),h3 (by simp)];exact PX a hw b c d f h
 ·exact absurd e hb
theorem NF(s:abO){i p:Nat}(hp:p<i)(hi:i<=s.size)(hb:Utf8.decode s p≠(65533,1))(hw:p+(Utf8.decode s p).2<=i):Utf8.decode (s.extract 0 i) p=Utf8.decode s p:=by
 rw[Lib.decode_at]at hb hw;rw[Lib.decode_at,Lib.decode_at,Js s hi,Jj s hp];refine OE hb (by omega) (λh=>?_) (λh=>?_) (λh=>?_)
 ·rw[Jj s (by omega)]
 ·rw[Jj s (by omega)]
 ·rw[Jj s (by omega)]
theorem Kx(s:abO)(i:Nat)(hi:i<s.size)(h:(s.get! i).toNat<128):∀f pos,s.size<=pos+f->pos<=i->xD f s pos= -1->xD f (s.extract 0 i) pos= -1
 | 0,pos,hf,hp,_=>by omega
 | f+1,pos,hf,hp,hb=>by
   rw[xD,Js s (by omega)];by_cases he:pos=i
   ·rw[Fl (by omega)]
   ·have hw:=Lib.decode_width_pos s pos (by omega);have b:=JT s (pos:=pos) (by omega) h;rw[xD,if_pos (by omega)]at hb;rw[if_pos (by omega)];split at hb
    ·omega
    ·rename_i a;rw[NF s (by omega) (by omega) (λe=>a (.inr (by rw[e];exact⟨rfl,rfl⟩))) b,Fl a];exact Kx s i hi h f _ (by omega) b hb
theorem KA{s:abO}(hv:YF s=true){a i:Nat}(ha:a<s.size)(h1:(s.get! a).toNat<128)(h0:(s.get! a).toNat≠0)(hi:a+1+i<s.size)(h2:(s.get! (a+1+i)).toNat<128):
  YF ((s.extract (a+1) s.size).extract 0 i)=true:=by
 have o:=gL hv;have j:tI s= -1:=by unfold YF at hv;simp at hv;exact hv.2
 obtain⟨f1,m,c⟩:=Lj s a ha h1 s.size 0 (by omega) (by omega) j;obtain⟨b,n,d⟩:∃b,s.size<=a+1+b/\xD b s (a+1)= -1:=by
  cases f1 with
  | zero=>omega
  | succ f1=>
    have k:Utf8.decode s a=((s.get! a).toNat,1):=by
     rcases tw s a with ⟨e,-⟩ | ⟨-,-,l⟩
     ·exact e
     ·have:=Lib.decode_width_pos s a ha;have:=l 0 (by omega);rw[jV]at this;omega
    rw[xD,if_pos ha,k,Fl (by
     rintro (e| ⟨e,-⟩)
     ·exact h0 e
     ·simp only at e;omega)]at c
    exact⟨f1,by omega,c⟩
 have f:xD b (s.extract (a+1) s.size) 0= -1:=(Ll s (a+1) b 0).2 d;have p:=rJ s (a+1);have g:=Kx (s.extract (a+1) s.size) i (by omega) (by rw[II];exact h2) b 0 (by omega) (by omega) f;have h:=Js (s.extract (a+1) s.size) (i:=i) (by omega);unfold YF;rw[h,au (by omega),aL];refine aK.2 ?_;unfold tI;rw[Lk _ _ b 0 (by omega) (by omega),g]
def tt:List UInt8:=[36,115,104,97,114,101,47]
def gV(s:abO):Bool:=tt.isPrefixOf (ls s)
def kY(s:abO):abO:=if gV s then s.extract 7 s.size else s
def ky(s:abO):abO×abO×Bool:=
 if Lib.indexB s ⟨#[47]⟩= -1 then(s,⟨#[]⟩,false)else(s.extract 0 (Lib.indexB s ⟨#[47]⟩).toNat,s.extract ((Lib.indexB s ⟨#[47]⟩).toNat+1) s.size,true)
def fy(s:abO):Bool:=gV s&&((ky (kY s)).2.2&&(YF s&&(fp (ky (kY s)).1&&gj (ky (kY s)).2.1)))
theorem Dc(s:abO):(ky s).1.size<=s.size/\(ky s).2.1.size<=s.size:=by
 unfold ky;split
 ·exact⟨ac _,ag _⟩
 ·simp only[aj];omega
theorem Bd(s:abO):(kY s).size<=s.size:=by
 unfold kY;split
 ·rw[aj];omega
 ·exact ac _
def KU(s:abO):Bool:=
 YF s&&(gV s&&(decide (3<=(lvs s).length)&&((decide (((lvs s).getD 1 ⟨#[]⟩).size≠0)&& !(Hh (ls ((lvs s).getD 1 ⟨#[]⟩)) 43 || Hh (ls ((lvs s).getD 1 ⟨#[]⟩)) 35))&&gj ⟨(jn ((lvs s).drop 2)).toArray⟩)))
theorem vx{s:abO}(h:gV s=true):7<=s.size/\(ls s)[6]? =some 47/\∀j,j<6->(ls s)[j]? ≠some 47:=by
 unfold gV at h;obtain⟨t,a⟩:=List.isPrefixOf_iff_prefix.1 h;have b:(ls s).length=7+t.length:=by rw[<-a];simp[tt];omega
 rw[aN]at b;refine⟨by omega,by rw[<-a];rfl,λj c=>?_⟩;rw[<-a];have:j=0\/j=1\/j=2\/j=3\/j=4\/j=5:=by omega
 rcases this with rfl| rfl| rfl| rfl| rfl| rfl<;>simp[tt]
theorem Na(s:abO):KU s=fy s:=by
 unfold KU fy;cases h:gV s
 ·simp
 cases p:YF s
 ·simp
 simp only[aL];obtain⟨q,g,j⟩:=vx h;have o:kY s=s.extract 7 s.size:=if_pos h;rw[o,Er g j];rcases xk (s.extract 7 s.size)with b| ⟨i,r,c,b⟩
 ·have e:Lib.indexB (s.extract 7 s.size) ⟨#[47]⟩= -1:=xc b;rw[show(6+1:Nat)=7 from rfl,Cm b];unfold ky;rw[if_pos e];rfl
 ·have e:Lib.indexB (s.extract 7 s.size) ⟨#[47]⟩=i:=ZS c b;rw[show(6+1:Nat)=7 from rfl,Er c b];have k:¬Lib.indexB (s.extract 7 s.size) ⟨#[47]⟩= -1:=by omega
  have n:ky (s.extract 7 s.size)=((s.extract 7 s.size).extract 0 i,(s.extract 7 s.size).extract (i+1) (s.extract 7 s.size).size,true):=by
   unfold ky;rw[Fl k,e];rfl
  rw[n];have d:3<=(s.extract 0 6 :: (s.extract 7 s.size).extract 0 i :: lvs ((s.extract 7 s.size).extract (i+1) (s.extract 7 s.size).size)).length:=by
   have:=Zg ((s.extract 7 s.size).extract (i+1) (s.extract 7 s.size).size);simp only[bM];omega
  rw[au d];simp only[aL,ji,Yl,List.getD_cons_succ,List.getD_cons_zero];rw[Ov,Ck]
  congr 1
  have t:=rJ s 7;have f:s.get! 6=47:=by rw[Lc,g];rfl
  have m:s.get! (6+1+i)=47:=by
   rw[<-II,Lc];rw[c];rfl
  have l:YF ((s.extract 7 s.size).extract 0 i)=true:=KA p (a:=6) (by omega) (by rw[f];decide) (by rw[f];decide) (by omega) (by rw[m];decide);unfold fp jY;rw[l,IK,Ky]
