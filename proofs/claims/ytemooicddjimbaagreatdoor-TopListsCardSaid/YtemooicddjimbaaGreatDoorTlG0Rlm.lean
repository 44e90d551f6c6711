/- Parts: Rlm, OrdG, OrdI, SsA, SsB. -/
import Derived.Below
import Derived.Test.YtemooicddjimbaaGreatDoorTlG0PkS
set_option maxRecDepth 10000
set_option maxHeartbeats 8000000
namespace Go.Proofs.YtemooicddjimbaaGreatDoor
open Go.RowKit Go.Proofs.Tryz
theorem Sd(mp md:Int)(w:World):Calls prog 37 #[.agg #[.int .i64 mp,.int .i64 md]] w fun e w'=>e= .returned (.bool (decide (16<=mp/\mp<=1048576/\0<=md/\md<=32)))/\Below w.heap.size w w':=by
 have c:=aa ((aq w.heap.size w).alloc (ac _) (.cells #[.int .i64 mp,.int .i64 md] 23));have f:=aa (Bk.fresh w 23 #[.int .i64 mp,.int .i64 md]);have i:(w.alloc (.cells #[.int .i64 mp,.int .i64 md] 23)).cell? ⟨w.heap.size,0,none⟩=some (.int .i64 mp):=f.o.cell 0;have j:(w.alloc (.cells #[.int .i64 mp,.int .i64 md] 23)).cell? ⟨w.heap.size,1,none⟩=some (.int .i64 md):=f.o.cell 1;have b:mp<16\/(16<=mp/\1048576<mp)\/(16<=mp/\mp<=1048576/\md<0)\/(16<=mp/\mp<=1048576/\0<=md/\32<md)\/(16<=mp/\mp<=1048576/\0<=md/\md<=32):=by omega
 rcases b with b| ⟨b,d⟩ | ⟨b,d,g⟩ | ⟨b,d,g,h⟩ | ⟨b,d,g,h⟩
 ·have a:Hid (decide (16<=mp/\mp<=1048576/\0<=md/\md<=32)=false):=aa (ah (by omega));rw[a.o];go_enter func37,ntmps37;go_wp2;go_ret;exact⟨by first| rfl| (simp;omega),c.o⟩
 ·have a:Hid (decide (16<=mp/\mp<=1048576/\0<=md/\md<=32)=false):=aa (ah (by omega));rw[a.o];go_enter func37,ntmps37;go_wp2;go_ret;exact⟨by first| rfl| (simp;omega),c.o⟩
 ·have a:Hid (decide (16<=mp/\mp<=1048576/\0<=md/\md<=32)=false):=aa (ah (by omega));rw[a.o];go_enter func37,ntmps37;go_wp2;go_ret;exact⟨by first| rfl| (simp;omega),c.o⟩
 ·have a:Hid (decide (16<=mp/\mp<=1048576/\0<=md/\md<=32)=false):=aa (ah (by omega));rw[a.o];go_enter func37,ntmps37;go_wp2;go_ret;exact⟨by first| rfl| (simp;omega),c.o⟩
 ·have a:Hid (decide (16<=mp/\mp<=1048576/\0<=md/\md<=32)=true):=aa (au (by omega));rw[a.o];go_enter func37,ntmps37;go_wp2;go_ret;exact⟨by first| rfl| (simp;omega),c.o⟩
def lmE(mp md:Int):Int:=if decide (16<=mp/\mp<=1048576/\0<=md/\md<=32)=true then 0 else 2
theorem aaI{mp md:Int}(h:decide (16<=mp/\mp<=1048576/\0<=md/\md<=32)=true):lmE mp md=0:=if_pos h
theorem aa0{mp md:Int}(h:decide (16<=mp/\mp<=1048576/\0<=md/\md<=32)=false):lmE mp md=2:=Fl (by rw[h];decide)
theorem ZG(mp md:Int)(w:World):Calls prog 22 #[.agg #[.int .i64 mp,.int .i64 md]] w fun e w'=>e= .returned (.int .i64 (lmE mp md))/\Below w.heap.size w w':=by
 have f:=aa ((aq w.heap.size w).alloc (ac _) (.cells #[.int .i64 mp,.int .i64 md] 23));have g:=aa (Bk.fresh w 23 #[.int .i64 mp,.int .i64 md]);have k:(w.alloc (.cells #[.int .i64 mp,.int .i64 md] 23)).cell? ⟨w.heap.size,0,none⟩=some (.int .i64 mp):=g.o.cell 0;have l:(w.alloc (.cells #[.int .i64 mp,.int .i64 md] 23)).cell? ⟨w.heap.size,1,none⟩=some (.int .i64 md):=g.o.cell 1;have c:=aa (fun W=>Sd mp md W);have i:=aa (@aaI mp md);have h:=aa (@aa0 mp md);obtain⟨b,a⟩:∃b,decide (16<=mp/\mp<=1048576/\0<=md/\md<=32)=b:=⟨_,rfl⟩;rw[a]at c i h;clear a;cases b
 focus
  rw[h.o rfl];go_enter func22,ntmps22
  go_wp2_with fail
  refine Yg (c.o _) fun j a=>?_;have d:=aa (Yf f.o a);clear a c;go_wp2;go_ret;exact⟨rfl,d.o⟩
 focus
  rw[i.o rfl];go_enter func22,ntmps22
  go_wp2_with fail
  refine Yg (c.o _) fun j a=>?_;have d:=aa (Yf f.o a);clear a c;go_wp2;go_ret;exact⟨rfl,d.o⟩
theorem Zs(v mp md:Int)(w:World):Calls prog 6 #[.int .i64 v,.agg #[.int .i64 mp,.int .i64 md]] w fun e w'=>e= .returned (.bool (nF v mp md))/\Below w.heap.size w w':=by
 have a:Hid (nF v mp md=(decide (v=4\/v=5)&&decide (16<=mp/\mp<=1048576/\0<=md/\md<=32))):=aa rfl;have c:=aa ((aq w.heap.size w).alloc (ac _) (.cells #[.int .i64 mp,.int .i64 md] 23));have g:=aa (Bk.fresh w 23 #[.int .i64 mp,.int .i64 md]);have m:(w.alloc (.cells #[.int .i64 mp,.int .i64 md] 23)).cell? ⟨w.heap.size,0,none⟩=some (.int .i64 mp):=g.o.cell 0;have n:(w.alloc (.cells #[.int .i64 mp,.int .i64 md] 23)).cell? ⟨w.heap.size,1,none⟩=some (.int .i64 md):=g.o.cell 1
 by_cases b:v=4\/v=5
 rotate_left
 ·have d:Hid (nF v mp md=false):=aa (by rw[a.o,ah b];rfl);have h:(v==4)=false:=ar.2 (by omega);have l:(v==5)=false:=ar.2 (by omega);clear b a;go_enter func6,ntmps6;go_wp2;go_ret;exact⟨by rw[d.o];rfl,c.o⟩
 have k:(v==4)=true\/((v==4)=false/\(v==5)=true):=by
  by_cases e:v=4
  ·exact .inl (by rw[e];rfl)
  ·exact .inr ⟨ar.2 e,by rw[show v=5 by omega];rfl⟩
 have d:Hid (nF v mp md=(lmE mp md==0)):=aa (by
  rw[a.o,au b,aL];cases j:decide (16<=mp/\mp<=1048576/\0<=md/\md<=32)
  ·rw[aa0 j];rfl
  ·rw[aaI j];rfl)
 clear b a;rcases k with h| ⟨h,l⟩
 all_goals
  go_enter func6,ntmps6
  go_wp2_with fail
  refine Yg (ZG mp md _) fun o i=>?_;have f:=aa (Yf c.o i);clear i;go_wp2;go_ret;exact⟨by rw[d.o];rfl,f.o⟩
end Go.Proofs.YtemooicddjimbaaGreatDoor
namespace Go.Proofs.YtemooicddjimbaaGreatDoor
open Go Go.RowKit
open Go.Proofs.Tryz
inductive Kd where
 | fix (v:Value)
 | rel (R:Value->World->Prop)
def Kd.val:Kd->Value->Value
 | .fix v,_=>v
 | .rel _,u=>u
def Kd.fits:Kd->Value->World->Prop
 | .fix v,u,_=>u=v
 | .rel R,u,w=>R u w
def Kd.holds(k:Kd)(u:Value)(w:World):Prop:=k.fits (k.val u) w
def Kd.stable(k:Kd):Prop:=∀u x y,k.fits u x->Below x.heap.size x y->k.fits u y
theorem Kd.val_of{k:Kd}{u:Value}{w:World}(h:k.fits u w):k.val u=u:=by
 cases k with
 | fix v=>exact h.symm
 | rel R=>rfl
theorem Wo(v:Value):(Kd.fix v).stable:=fun _ _ _ h _=>h
def Ww(P:Program)(Post:Value->World->Prop):Result Next->Prop
 | .ok (.value v) w'=>Post v w'
 | .ok .skip w'=>Post undef w'
 | .ok (.enter f args) w'=>Calls P f args w' fun e w''=>∃v,e= .returned v/\Post v w''
 | _=>False
def Wn(o:Oper)(j:Nat):Bool:=o.after.any fun e=>Region.binds .any e&&e.on==j
def Ws(ops:Array Oper)(i:Nat)(o oj:Oper):Bool:=
 (match o.dst with| some d=>oj.dst !=some d&&(!(oj.looksAt ops).contains d || Wn oj i) | none=>true)&&
 (match oj.dst with| some d=>!(o.looksAt ops).contains d| none=>true)
def Wx(ops:Array Oper):Nat->List Oper->Bool
 | _,[]=>true
 | i,o :: l=>(o.after.all fun e=>!Region.binds .any e || decide (e.on<i))&&((match o.dst with| some d=>!(o.looksAt ops).contains d| none=>true)&&((l.all fun oj=>Ws ops i o oj)&&Wx ops (i+1) l))
section
variable {P:Program} {ops:Array Oper} {Q:Exit->Act->World->Prop}
structure ChkG (ops:Array Oper):Prop where
 up:∀(i:Nat) (o:Oper),ops[i]? =some o->∀e∈o.after,Region.binds .any e=true->e.on<i
 one:∀(i j:Nat) (o oj:Oper) (d:Tmp),ops[i]? =some o->ops[j]? =some oj->o.dst=some d->oj.dst=some d->i=j
 look:∀(i j:Nat) (o oj:Oper) (d:Tmp),ops[i]? =some o->ops[j]? =some oj->oj.dst=some d->d∈o.looksAt ops->Wn o j=true
theorem Wp{i:Nat}:∀ {l:List Oper} {k:Nat},Wx ops k l=true->∀a b o oj,a<b->l[a]? =some o->l[b]? =some oj->Ws ops (k+a) o oj=true
 | [],_,_,a,_,_,_,_,h,_=>by simp at h
 | x :: l,k,hB,a,b,o,oj,hab,ha,hb=>by
   simp only[Wx,eh]at hB;obtain⟨-,-,h1,h2⟩:=hB;obtain⟨b,rfl⟩:∃c,b=c+1:=⟨b- 1,by omega⟩;rw[aE]at hb;cases a with
   | zero=>
     rw[aB]at ha;cases ha;exact dL.1 h1 oj (iL hb)
   | succ a=>
     rw[aE]at ha;have:=Wp (i:=i) h2 a b o oj (by omega) ha hb;rwa[Nat.add_assoc,Nat.add_comm 1 a]at this
theorem Wr:∀ {l:List Oper} {k:Nat},Wx ops k l=true->∀a o,l[a]? =some o->(∀e∈o.after,Region.binds .any e=true->e.on<k+a)/\(∀d,o.dst=some d->d ∉ o.looksAt ops)
 | [],_,_,a,_,h=>by simp at h
 | x :: l,k,hB,a,o,ha=>by
   simp only[Wx,eh]at hB;obtain⟨h1,h2,h3,h4⟩:=hB;cases a with
   | zero=>
     rw[aB]at ha;cases ha;refine⟨fun e f b=>?_,fun d c g=>?_⟩
     ·have:=Array.all_eq_true_iff_forall_mem.1 h1 e f;rw[b]at this
      simpa using this
     ·rw[c]at h2;simp only[Bool.not_eq_true',List.contains_eq_mem,Ip]at h2;exact h2 g
   | succ a=>
     rw[aE]at ha;have:=Wr h4 a o ha;rwa[Nat.add_assoc,Nat.add_comm 1 a]at this
theorem WH(h:Wx ops 0 ops.toList=true):ChkG ops:=by
 have b:∀i,ops.toList[i]? =ops[i]? :=fun i=>Array.getElem?_toList;refine⟨fun i o f e p n=>?_,fun i j o k d f c g l=>?_,fun i j o k d f c g m=>?_⟩
 ·have:=(Wr h i o (by rw[b];exact f)).1 e p n;omega
 ·rcases Nat.lt_trichotomy i j with a| a| a
  ·have:=Wp (i:=0) h i j o k a (by rw[b];exact f) (by rw[b];exact c);simp[Ws,g,l]at this
  ·exact a
  ·have:=Wp (i:=0) h j i k o a (by rw[b];exact c) (by rw[b];exact f);simp[Ws,g,l]at this
 ·rcases Nat.lt_trichotomy i j with a| a| a
  ·have:=Wp (i:=0) h i j o k a (by rw[b];exact f) (by rw[b];exact c);simp only[Ws,g,eh,Bool.not_eq_true',List.contains_eq_mem,Ip]at this;exact absurd m this.2
  ·subst a;obtain rfl:o=k:=Option.some.inj (f.symm.trans c);exact absurd m ((Wr h i o (by rw[b];exact f)).2 d g)
  ·have:=Wp (i:=0) h j i k o a (by rw[b];exact c) (by rw[b];exact f);simp only[Ws,g,eh,Bool.or_eq_true,Bool.not_eq_true',List.contains_eq_mem,Ip,bV]at this;exact this.1.2.resolve_left (fun x=>x m)
structure ActIs (ops:Array Oper) (a0:Act) (f:Nat->Value) (L:Nat->Prop) (a:Act):Prop where
 size:a.tmps.size=a0.tmps.size
 defs:a.defers=a0.defers
 got:∀(j:Nat) (o:Oper) (d:Tmp),ops[j]? =some o->o.dst=some d->L j->a.tmps[d]? =if d<a0.tmps.size then some (f j)else none
 old:∀d:Tmp,(∀(j:Nat) (o:Oper),ops[j]? =some o->o.dst=some d->¬L j)->a.tmps[d]? =a0.tmps[d]?
theorem ActIs.eq{a0 a b:Act}{f:Nat->Value}{L:Nat->Prop}(ha:ActIs ops a0 f L a)(hb:ActIs ops a0 f L b):a=b:=by
 obtain⟨m,k⟩:=a;obtain⟨n,l⟩:=b;obtain rfl:k=l:=ha.defs.trans hb.defs.symm
 congr 1
 apply Il;intro d
 by_cases h:∃j:Nat,∃o:Oper,ops[j]? =some o/\o.dst=some d/\L j
 ·obtain⟨j,o,c,e,g⟩:=h;exact(ha.got j o d c e g).trans (hb.got j o d c e g).symm
 ·have i:∀j (o:Oper),ops[j]? =some o->o.dst=some d->¬L j:=fun j o c e g=>h ⟨j,o,c,e,g⟩;exact(ha.old d i).trans (hb.old d i).symm
theorem ActIs.congr{a0 a:Act}{f g:Nat->Value}{L L':Nat->Prop}(ha:ActIs ops a0 f L a)(hL:∀j,L j↔L' j)(hf:∀j,L j->f j=g j):ActIs ops a0 g L' a:=
 ⟨ha.size,ha.defs,fun j o d c e b=>by rw[ha.got j o d c e ((hL j).2 b),hf j ((hL j).2 b)],fun d h=>ha.old d fun j o c e b=>h j o c e ((hL j).1 b)⟩
theorem ActIs.put{a0 a:Act}{f:Nat->Value}{L:Nat->Prop}(hc:ChkG ops)(ha:ActIs ops a0 f L a){i:Nat}{o:Oper}(ho:ops[i]? =some o)(hi:¬L i):ActIs ops a0 f (fun j=>L j\/j=i) (a.put o.dst (f i)):=by
 unfold Act.put;cases m:o.dst with
 | none=>
   refine⟨ha.size,ha.defs,fun j l d b c g=>?_,fun d h=>ha.old d fun j l b c g=>h j l b c (.inl g)⟩;rcases g with g| rfl
   ·exact ha.got j l d b c g
   ·rw[ho]at b;cases b;rw[m]at c;cases c
 | some e=>
   refine⟨by simp[ha.size],ha.defs,fun j l d b c g=>?_,fun d h=>?_⟩
   ·show(a.tmps.setIfInBounds e (f i))[d]? =_
    by_cases k:e=d
    ·subst k;obtain rfl:=hc.one i j o l e ho b m c;rw[<-ha.size];simp[Array.getElem?_setIfInBounds]
    ·rw[eK k];rcases g with g| rfl
     ·exact ha.got j l d b c g
     ·rw[ho]at b;cases b;rw[m]at c;exact absurd (Option.some.inj c) k
   ·show(a.tmps.setIfInBounds e (f i))[d]? =_;have k:e≠d:=fun x=>h i o ho (by rw[m,x]) (.inr rfl);rw[eK k];exact ha.old d fun j l b c g=>h j l b c (.inl g)
theorem ActIs.slot{a0 a b:Act}{f:Nat->Value}{L L':Nat->Prop}(hc:ChkG ops)(ha:ActIs ops a0 f L a)(hb:ActIs ops a0 f L' b){i:Nat}{o:Oper}(ho:ops[i]? =some o)
  (h1:∀j,Wn o j=true->L j/\L' j){t:Tmp}(ht:t∈o.looksAt ops):a.tmps[t]? =b.tmps[t]? :=by
 by_cases h:∃j:Nat,∃c:Oper,ops[j]? =some c/\c.dst=some t
 ·obtain⟨j,c,d,e⟩:=h;have g:=h1 j (hc.look i j o c t ho d e ht);exact(ha.got j c t d e g.1).trans (hb.got j c t d e g.2).symm
 ·exact(ha.old t fun j c d e _=>h ⟨j,c,d,e⟩).trans (hb.old t fun j c d e _=>h ⟨j,c,d,e⟩).symm
theorem ActIs.exec{a0 a b:Act}{f:Nat->Value}{L L':Nat->Prop}(hc:ChkG ops)(ha:ActIs ops a0 f L a)(hb:ActIs ops a0 f L' b){i:Nat}{o:Oper}(ho:ops[i]? =some o)(hs:∀cs b,o.op≠ .select cs b)
  (h1:∀j,Wn o j=true->L j/\L' j):execOp a.eval o=execOp b.eval o/\Region.wanted o (yielded ops a.tmps)=Region.wanted o (yielded ops b.tmps):=by
 refine⟨execOp_congr o hs fun x e=>?_,?_⟩
 ·cases x with
  | tmp t=>
    have c:t∈o.looksAt ops:=List.mem_append_left _ (List.mem_filterMap.2 ⟨.tmp t,by simpa using e,rfl⟩);have:=ha.slot hc hb ho h1 c;simp only[Act.eval,Jf,this]
  | _=>rfl
 ·unfold Region.wanted;cases d:o.guard with
  | none=>rfl
  | some gw=>
    obtain⟨g,want⟩:=gw;have h:yielded ops a.tmps g=yielded ops b.tmps g:=by
     unfold yielded;cases c:(ops[g]?).bind (·.dst)with
     | none=>rfl
     | some t=>
       have:=ha.slot hc hb ho h1 (t:=t) (by simp[Oper.looksAt,d,c]);simp only[Option.bind_some,this]
    simp only[h]
def Wu(P:Program)(ops:Array Oper)(w0:World)(H:Nat->World->Prop)(o:Oper)(a:Act)(kd:Kd):Prop:=
 kd.stable/\∀x,Below w0.heap.size w0 x->(∀j,Wn o j=true->H j x)->if Region.wanted o (yielded ops a.tmps)=true then Ww P (fun u y=>kd.fits u y/\Below x.heap.size x y) ((execOp a.eval o).run P x)else kd.fits undef x
def wpG(P:Program)(ops:Array Oper)(w0:World)(vs:Nat->Value)(H:Nat->World->Prop)(Qf:Act->Prop):List Kd->Nat->List Oper->Act->Prop
 | kd :: ks,k,o :: l,a=>Wu P ops w0 H o a kd/\wpG P ops w0 vs H Qf ks (k+1) l (a.put o.dst (kd.val (vs k)))
 | [],_,[],a=>Qf a
 | _,_,_,_=>False
theorem WC{w0:World}{vs:Nat->Value}{H:Nat->World->Prop}{Qf:Act->Prop}{a0:Act}{K:Nat->Kd}(hc:ChkG ops):∀(ks:List Kd) (k:Nat) (l:List Oper) (a:Act),wpG P ops w0 vs H Qf ks k l a->(∀j,l[j]? =ops[k+j]?)->(∀j,j<ks.length->ks[j]? =some (K (k+j)))->
  ActIs ops a0 (fun j=>(K j).val (vs j)) (fun j=>j<k) a->
  (∀i o,k<=i->ops[i]? =some o->∃b,ActIs ops a0 (fun j=>(K j).val (vs j)) (fun j=>j<i) b/\Wu P ops w0 H o b (K i))/\∃b,ActIs ops a0 (fun j=>(K j).val (vs j)) (fun j=>j<ops.size) b/\Qf b
 | kd :: ks,k,o :: l,a,h,hl,hK,hA=>by
   obtain⟨h1,h2⟩:=h;have c:ops[k]? =some o:=(hl 0).symm;have q:kd=K k:=by
    have:=hK 0 (by simp)
    simpa using this
   subst q;obtain⟨r,s⟩:=WC hc ks (k+1) l _ h2 (fun j=>by have:=hl (j+1);rw[aE]at this;rw[this];congr 1;omega) (fun j p=>by have:=hK (j+1) (by simpa using p);rw[aE]at this;rw[this];congr 2;omega)
    ((hA.put hc c (WQ k)).congr (fun j=>by omega) (fun _ _=>rfl))
   refine⟨fun i t g e=>?_,s⟩;rcases Nat.eq_or_lt_of_le g with rfl| m
   ·rw[c]at e;cases e;exact⟨a,hA,h1⟩
   ·exact r i t m e
 | [],k,[],a,h,hl,_,hA=>by
   have v:ops.size<=k:=by
    have:=hl 0;rw[List.getElem?_nil,jV]at this;exact Array.getElem?_eq_none_iff.1 this.symm
   have f:∀j o,ops[j]? =some o->j<ops.size:=fun j o c=>(cZ.1 c).1;refine⟨fun i o g c=>absurd (f i o c) (by omega),a,⟨hA.size,hA.defs,fun j o d h1 h2 u=>hA.got j o d h1 h2 (by omega),fun d n=>hA.old d fun j o h1 h2 _=>n j o h1 h2 (f j o h1)⟩,h⟩
 | [],_,_ :: _,_,h,_,_,_=>by cases h
 | _ :: _,_,[],_,h,_,_,_=>by cases h
theorem WG{p q:Nat->Bool}(h:∀x,q x=true->p x=true):∀l:List Nat,(l.filter q).length<=(l.filter p).length
 | []=>ac _
 | x :: l=>by
   have:=WG h l
   by_cases a:q x=true
   ·rw[List.filter_cons_of_pos a,List.filter_cons_of_pos (h x a)]
    simpa using this
   ·rw[List.filter_cons_of_neg a]
    by_cases b:p x=true
    ·rw[List.filter_cons_of_pos b,bM];omega
    ·rw[List.filter_cons_of_neg b];exact this
theorem WE{p q:Nat->Bool}(h:∀x,q x=true->p x=true){i:Nat}(hp:p i=true)(hq:¬q i=true):∀l:List Nat,i∈l->(l.filter q).length<(l.filter p).length
 | [],h=>by cases h
 | x :: l,hm=>by
   have hle:=WG h l
   by_cases c:x=i
   ·subst c;rw[List.filter_cons_of_pos hp,List.filter_cons_of_neg hq,bM];omega
   ·have:=WE h hp hq l ((ie.1 hm).resolve_left (fun e=>c e.symm))
    by_cases a:q x=true
    ·rw[List.filter_cons_of_pos a,List.filter_cons_of_pos (h x a)]
     simpa using this
    ·rw[List.filter_cons_of_neg a]
     by_cases b:p x=true
     ·rw[List.filter_cons_of_pos b,bM];omega
     ·rw[List.filter_cons_of_neg b];exact this
theorem Wt{listed:Array Bool}{j:Nat}(hj:j<listed.size)(h:listed.getD j true=false):listed.getD j false=false:=by
 simp[hj]at h⊢;exact h
theorem WI{w0:World}{a0:Act}{K:Nat->Kd}(hc:ChkG ops)(hs:Region.noSelect ops=true)(hst:∀j,(K j).stable)
  (hcl:∀vs:Nat->Value,(∀i o,ops[i]? =some o->∃b,ActIs ops a0 (fun j=>(K j).val (vs j)) (fun j=>j<i) b/\Wu P ops w0 (fun j x=>(K j).holds (vs j) x) o b (K i))/\
    ∃b,ActIs ops a0 (fun j=>(K j).val (vs j)) (fun j=>j<ops.size) b/\∀x,Below w0.heap.size w0 x->(∀j,j<ops.size->(K j).holds (vs j) x)->Q .normal b x):
  ∀(fuel:Nat) (listed:Array Bool) (a:Act) (w:World) (vs:Nat->Value),listed.size=ops.size->((List.range ops.size).filter fun i=>!listed.getD i true).length<=fuel->
   ActIs ops a0 (fun j=>(K j).val (vs j)) (fun j=>listed.getD j false=true) a->Below w0.heap.size w0 w->(∀j,listed.getD j false=true->(K j).holds (vs j) w)->wpAny P .any ops Q fuel listed a w:=by
 have D:∀(listed:Array Bool) (a:Act) (w:World) (vs:Nat->Value),listed.size=ops.size->ActIs ops a0 (fun j=>(K j).val (vs j)) (fun j=>listed.getD j false=true) a->Below w0.heap.size w0 w->(∀j,listed.getD j false=true->(K j).holds (vs j) w)->(∀j,j<ops.size->listed.getD j false=true)->Q .normal a w:=by
  intro listed a w vs J v t z l;obtain⟨-,b,s,hq⟩:=hcl vs;have:a=b:=(v.congr (L':=fun j=>j<ops.size) (fun j=>⟨fun h=>by
   rcases fj j listed.size with V| V
   ·omega
   ·simp[Array.getElem?_eq_none V]at h,l j⟩) (fun _ _=>rfl)).eq s
  rw[this];exact hq w t fun j d=>z j (l j d)
 intro fuel
 induction fuel with
 | zero=>
   intro listed a w vs J W v t z;have O:=aF (Nat.le_zero.1 W);have l:∀j,j<ops.size->listed.getD j false=true:=fun j d=>by
    have:=List.filter_eq_nil_iff.1 O j (gn.2 d);simp[show j<listed.size by omega]at this⊢;exact this
   refine⟨List.eq_nil_iff_forall_not_mem.2 fun j d=>?_,D listed a w vs J v t z l⟩;obtain⟨R,o,m,-⟩:=mem_ready.1 d;have F:j<ops.size:=(cZ.1 m).1;have:=l j F;rw[Wt (by omega) R]at this;cases this
 | succ fuel ih=>
   intro listed a w vs J W v t z;refine⟨fun O=>D listed a w vs J v t z fun j d=>?_,fun i hi=>?_⟩
   ·induction j using Nat.strongRecOn with
    | ind j ihj=>
      cases X:listed.getD j false with
      | true=>rfl
      | false=>
        exfalso;obtain⟨o,m⟩:∃o,ops[j]? =some o:=⟨ops[j],eL d⟩;have:j∈Region.ready .any ops listed:=mem_ready.2 ⟨by
         simp[show j<listed.size by omega]at X⊢;exact X,o,m,fun e B s=>by
         have:=hc.up j o m e B s;exact ihj e.on this (by omega)⟩
        rw[O]at this;cases this
   ·obtain⟨N,o,m,l⟩:=mem_ready.1 hi;have F:i<ops.size:=(cZ.1 m).1;have A:=Wt (by omega) N;have C:∀j,Wn o j=true->listed.getD j false=true/\j<i:=fun j d=>by
     obtain⟨e,B,s⟩:=Array.any_eq_true'.1 d;simp only[eh,aK]at s;rw[<-s.2];exact⟨l e B s.1,hc.up i o m e B s.1⟩
    obtain⟨b,s,S⟩:=(hcl vs).1 i o m;obtain⟨B,hw⟩:=v.exec hc s m (fun cs b=>Region.noSelect_spec hs i o cs b m) C;have c:=S.2 w t fun j d=>z j (C j d).1;have next:∀u y,(K i).fits u y->Below w.heap.size w y->wpAny P .any ops Q fuel (listed.setIfInBounds i true) (a.put o.dst u) y:=by
     intro u y U Y;have H:i<listed.size:=by omega
     have G:∀j,(listed.setIfInBounds i true).getD j false=true↔(listed.getD j false=true\/j=i):=fun j=>by
      by_cases E:i=j
      ·subst E;simp[H]
      ·rw[getD_set_ne false E];exact⟨.inl,fun h=>h.resolve_right fun e=>E e.symm⟩
     have L:=(v.congr (g:=fun j=>(K j).val (if j=i then u else vs j)) (fun _=>Iff.rfl) (fun j d=>by
      rw[Fl (fun e=>by rw[e,A]at d;cases d)])).put hc m (by rw[A];decide)
     rw[if_pos rfl,Kd.val_of U]at L;refine ih (listed.setIfInBounds i true) (a.put o.dst u) y (fun j=>if j=i then u else vs j) (by rw[Array.size_setIfInBounds];exact J) ?_ (L.congr (fun j=>(G j).symm) (fun _ _=>rfl)) (Yf t Y) fun j d=>?_
     ·have:=WE (p:=fun k=>!listed.getD k true) (q:=fun k=>!(listed.setIfInBounds i true).getD k true) (fun k T=>by
       by_cases M:i=k
       ·subst M;simp[H]at T
       ·rw[getD_set_ne true M]at T;exact T) (i:=i) (by simp[N]) (by simp[H]) (List.range ops.size) (gn.2 F)
      omega
     ·rcases(G j).1 d with h| rfl
      ·rw[Fl (fun e=>by rw[e,A]at h;cases h)];exact hst j _ w y (z j h) Y
      ·rw[if_pos rfl];unfold Kd.holds;rw[Kd.val_of U];exact U
    unfold wpOp;simp only[m];rw[hw];split
    ·rename_i I;rw[if_pos I]at c;refine .inl ?_;unfold Oper.wp;rw[B];generalize (execOp b.eval o).run P w=r at*;cases r with
     | ok n w'=>
       cases n<;>simp only[Ww]at c<;>simp only[Oper.upon]
       case value u=>exact next u w' c.1 c.2
       case skip=>exact next undef w' c.1 c.2
       case enter f args=>
        refine Calls.mono c fun e Z hp=>?_;obtain⟨u,rfl,R,h2⟩:=hp;exact next u Z R h2
     | halt x w'=>exact absurd c (by simp[Ww])
    ·rename_i I;rw[Fl I]at c;exact next undef w c (aq _ _)
theorem Wq{id:Nat}{a:Act}{w:World}(ks:List Kd)(hm:P.follows .mixedOrders=true)
  (h:∀vs:Nat->Value,wpG P ops w vs (fun j x=>(ks.getD j (.fix undef)).holds (vs j) x) (fun a'=>∀x,Below w.heap.size w x->(∀j,j<ops.size->(ks.getD j (.fix undef)).holds (vs j) x)->Q .normal a' x) ks 0 ops.toList a)
  (hB:(Region.noSelect ops&&(ks.length==ops.size&&Wx ops 0 ops.toList))=true):(Code.region id ops true).wp P Q a w:=by
 simp only[eh,aK]at hB;obtain⟨n,s,p⟩:=hB;have m:=WH p;have k:∀f:Nat->Value,ActIs ops a f (fun j=>j<0) a:=fun f=>⟨rfl,rfl,fun j o d _ _ h=>absurd h (Nat.not_lt_zero _),fun d _=>rfl⟩;have e:=fun vs:Nat->Value=>WC (K:=fun j=>ks.getD j (.fix undef)) m ks 0 ops.toList a (h vs) (fun j=>by rw[bV];exact Array.getElem?_toList) (fun j c=>by
  rw[bV,List.getElem?_eq_getElem c];simp[List.getD_eq_getElem?_getD,List.getElem?_eq_getElem c]) (k _)
 have g:∀j,(Array.replicate ops.size false).getD j false=false:=fun j=>by
  rcases fj j ops.size with l| l<;>simp[l]
 refine wp_region_any hm (WI (w0:=w) (a0:=a) (K:=fun j=>ks.getD j (.fix undef)) m n (fun j=>?_) (fun vs=>⟨fun i o r=>(e vs).1 i o (ag _) r,(e vs).2⟩) ops.size _ a _ (fun _=>undef) (by simp) ?_ ((k _).congr (fun j=>by rw[g];simp) (fun _ _=>rfl)) ?_ (fun j c=>?_))
 ·rcases fj j ops.size with c| c
  ·obtain⟨b,-,q⟩:=(e fun _=>undef).1 j ops[j] (ag _) (eL c);exact q.1
  ·show(ks.getD j (.fix undef)).stable;rw[List.getD_eq_getElem?_getD,aG (by omega)];exact Wo undef
 ·refine aC (WJ _ _) ?_;rw[List.length_range];exact ac _
 ·exact⟨rfl,rfl,rfl,ac _,fun _ _=>rfl⟩
 ·rw[g]at c;cases c
theorem Wk{w0:World}{vs:Nat->Value}{H:Nat->World->Prop}{Qf:Act->Prop}{ks:List Kd}{k:Nat}{o:Oper}{l:List Oper}{a:Act}{v:Value}
  (hy:YieldsIf P ops (fun x=>Below w0.heap.size w0 x) o v a)(h:wpG P ops w0 vs H Qf ks (k+1) l (a.put o.dst v)):wpG P ops w0 vs H Qf (.fix v :: ks) k (o :: l) a:=by
 refine⟨⟨Wo v,fun x d _=>?_⟩,h⟩;rcases hy with ⟨b,c⟩ | ⟨b,c⟩
 ·rw[if_pos b,c x d];exact⟨rfl,aq _ _⟩
 ·rw[Fl (by rw[b];decide)];exact c.symm
theorem Wm{w0:World}{vs:Nat->Value}{H:Nat->World->Prop}{Qf:Act->Prop}{ks:List Kd}{k:Nat}{o:Oper}{l:List Oper}{a:Act}{v:Value}{f:FuncId}{args:Array Value}
  (hc:∀x,Below w0.heap.size w0 x->(∀j,Wn o j=true->H j x)->Calls P f args x fun e y=>e= .returned v/\Below x.heap.size x y)(hw:Region.wanted o (yielded ops a.tmps)=true)
  (hr:∀x,Below w0.heap.size w0 x->(execOp a.eval o).run P x= .ok (.enter f args) x)(h:wpG P ops w0 vs H Qf ks (k+1) l (a.put o.dst v)):wpG P ops w0 vs H Qf (.fix v :: ks) k (o :: l) a:=
 ⟨⟨Wo v,fun x c d=>by
   rw[if_pos hw,hr x c];exact(hc x c d).mono fun e y b=>⟨v,b.1,rfl,b.2⟩⟩,h⟩
theorem Wy{w0:World}{vs:Nat->Value}{H:Nat->World->Prop}{Qf:Act->Prop}{ks:List Kd}{k:Nat}{o:Oper}{l:List Oper}{a:Act}(R:Value->World->Prop)(hR:(Kd.rel R).stable)
  (hw:Region.wanted o (yielded ops a.tmps)=true)(hy:∀x,Below w0.heap.size w0 x->(∀j,Wn o j=true->H j x)->∃u y,(execOp a.eval o).run P x= .ok (.value u) y/\R u y/\Below x.heap.size x y)(h:wpG P ops w0 vs H Qf ks (k+1) l (a.put o.dst (vs k))):wpG P ops w0 vs H Qf (.rel R :: ks) k (o :: l) a:=
 ⟨⟨hR,fun x e d=>by
   obtain⟨u,y,b,c⟩:=hy x e d;rw[if_pos hw,b];exact c⟩,h⟩
theorem WD{w0:World}{vs:Nat->Value}{H:Nat->World->Prop}{Qf:Act->Prop}{ks:List Kd}{k:Nat}{o:Oper}{l:List Oper}{a:Act}{v:Value}
  (hw:Region.wanted o (yielded ops a.tmps)=true)(hy:∀x,Below w0.heap.size w0 x->(∀j,Wn o j=true->H j x)->(execOp a.eval o).run P x= .ok (.value v) x)(h:wpG P ops w0 vs H Qf ks (k+1) l (a.put o.dst v)):wpG P ops w0 vs H Qf (.fix v :: ks) k (o :: l) a:=
 ⟨⟨Wo v,fun x c b=>by
   rw[if_pos hw,hy x c b];exact⟨rfl,aq _ _⟩⟩,h⟩
theorem Wz{w0:World}{vs:Nat->Value}{H:Nat->World->Prop}{Qf:Act->Prop}{k:Nat}{a:Act}(h:Qf a):wpG P ops w0 vs H Qf [] k [] a:=h
end
end Go.Proofs.YtemooicddjimbaaGreatDoor
namespace Go.Proofs.YtemooicddjimbaaGreatDoor
open Go Go.RowKit
open Go.Proofs.Tryz
inductive Kv where
 | fix (v:Value)
 | rel (R:Value->Prop)
def Kv.val:Kv->Value->Value
 | .fix v,_=>v
 | .rel _,u=>u
def Kv.fits:Kv->Value->Prop
 | .fix v,u=>u=v
 | .rel R,u=>R u
def Kv.holds(k:Kv)(u:Value):Prop:=k.fits (k.val u)
theorem Kv.val_of{k:Kv}{u:Value}(h:k.fits u):k.val u=u:=by
 cases k with
 | fix v=>exact h.symm
 | rel R=>rfl
section
variable {P:Program} {ops:Array Oper} {Q:Exit->Act->World->Prop} {S:World->Prop}
def Z8(P:Program)(ops:Array Oper)(S:World->Prop)(H:Nat->Prop)(o:Oper)(a:Act)(kd:Kv):Prop:=
 ∀x,S x->(∀j,Wn o j=true->H j)->if Region.wanted o (yielded ops a.tmps)=true then Ww P (fun u y=>kd.fits u/\S y) ((execOp a.eval o).run P x)else kd.fits undef
def wpI(P:Program)(ops:Array Oper)(S:World->Prop)(vs:Nat->Value)(H:Nat->Prop)(Qf:Act->Prop):List Kv->Nat->List Oper->Act->Prop
 | kd :: ks,k,o :: l,a=>Z8 P ops S H o a kd/\wpI P ops S vs H Qf ks (k+1) l (a.put o.dst (kd.val (vs k)))
 | [],_,[],a=>Qf a
 | _,_,_,_=>False
theorem aaF{vs:Nat->Value}{H:Nat->Prop}{Qf:Act->Prop}{a0:Act}{K:Nat->Kv}(hc:ChkG ops):∀(ks:List Kv) (k:Nat) (l:List Oper) (a:Act),wpI P ops S vs H Qf ks k l a->(∀j,l[j]? =ops[k+j]?)->(∀j,j<ks.length->ks[j]? =some (K (k+j)))->
  ActIs ops a0 (fun j=>(K j).val (vs j)) (fun j=>j<k) a->
  (∀i o,k<=i->ops[i]? =some o->∃b,ActIs ops a0 (fun j=>(K j).val (vs j)) (fun j=>j<i) b/\Z8 P ops S H o b (K i))/\∃b,ActIs ops a0 (fun j=>(K j).val (vs j)) (fun j=>j<ops.size) b/\Qf b
 | kd :: ks,k,o :: l,a,h,hl,hK,hA=>by
   obtain⟨h1,h2⟩:=h;have c:ops[k]? =some o:=(hl 0).symm;have q:kd=K k:=by
    have:=hK 0 (by simp)
    simpa using this
   subst q;obtain⟨r,s⟩:=aaF hc ks (k+1) l _ h2 (fun j=>by have:=hl (j+1);rw[aE]at this;rw[this];congr 1;omega) (fun j p=>by have:=hK (j+1) (by simpa using p);rw[aE]at this;rw[this];congr 2;omega)
    ((hA.put hc c (WQ k)).congr (fun j=>by omega) (fun _ _=>rfl))
   refine⟨fun i t g e=>?_,s⟩;rcases Nat.eq_or_lt_of_le g with rfl| m
   ·rw[c]at e;cases e;exact⟨a,hA,h1⟩
   ·exact r i t m e
 | [],k,[],a,h,hl,_,hA=>by
   have v:ops.size<=k:=by
    have:=hl 0;rw[List.getElem?_nil,jV]at this;exact Array.getElem?_eq_none_iff.1 this.symm
   have f:∀j o,ops[j]? =some o->j<ops.size:=fun j o c=>(cZ.1 c).1;refine⟨fun i o g c=>absurd (f i o c) (by omega),a,⟨hA.size,hA.defs,fun j o d h1 h2 u=>hA.got j o d h1 h2 (by omega),fun d n=>hA.old d fun j o h1 h2 _=>n j o h1 h2 (f j o h1)⟩,h⟩
 | [],_,_ :: _,_,h,_,_,_=>by cases h
 | _ :: _,_,[],_,h,_,_,_=>by cases h
theorem abu{a0:Act}{K:Nat->Kv}(hc:ChkG ops)(hs:Region.noSelect ops=true)
  (hcl:∀vs:Nat->Value,(∀i o,ops[i]? =some o->∃b,ActIs ops a0 (fun j=>(K j).val (vs j)) (fun j=>j<i) b/\Z8 P ops S (fun j=>(K j).holds (vs j)) o b (K i))/\
    ∃b,ActIs ops a0 (fun j=>(K j).val (vs j)) (fun j=>j<ops.size) b/\∀x,S x->(∀j,j<ops.size->(K j).holds (vs j))->Q .normal b x):
  ∀(fuel:Nat) (listed:Array Bool) (a:Act) (w:World) (vs:Nat->Value),listed.size=ops.size->((List.range ops.size).filter fun i=>!listed.getD i true).length<=fuel->
   ActIs ops a0 (fun j=>(K j).val (vs j)) (fun j=>listed.getD j false=true) a->S w->(∀j,listed.getD j false=true->(K j).holds (vs j))->wpAny P .any ops Q fuel listed a w:=by
 have D:∀(listed:Array Bool) (a:Act) (w:World) (vs:Nat->Value),listed.size=ops.size->ActIs ops a0 (fun j=>(K j).val (vs j)) (fun j=>listed.getD j false=true) a->S w->(∀j,listed.getD j false=true->(K j).holds (vs j))->(∀j,j<ops.size->listed.getD j false=true)->Q .normal a w:=by
  intro listed a w vs J t v z l;obtain⟨-,b,s,hq⟩:=hcl vs;have:a=b:=(t.congr (L':=fun j=>j<ops.size) (fun j=>⟨fun h=>by
   rcases fj j listed.size with W| W
   ·omega
   ·simp[Array.getElem?_eq_none W]at h,l j⟩) (fun _ _=>rfl)).eq s
  rw[this];exact hq w v fun j d=>z j (l j d)
 intro fuel
 induction fuel with
 | zero=>
   intro listed a w vs J X t v z;have O:=aF (Nat.le_zero.1 X);have l:∀j,j<ops.size->listed.getD j false=true:=fun j d=>by
    have:=List.filter_eq_nil_iff.1 O j (gn.2 d);simp[show j<listed.size by omega]at this⊢;exact this
   refine⟨List.eq_nil_iff_forall_not_mem.2 fun j d=>?_,D listed a w vs J t v z l⟩;obtain⟨R,o,m,-⟩:=mem_ready.1 d;have F:j<ops.size:=(cZ.1 m).1;have:=l j F;rw[Wt (by omega) R]at this;cases this
 | succ fuel ih=>
   intro listed a w vs J X t v z;refine⟨fun O=>D listed a w vs J t v z fun j d=>?_,fun i hi=>?_⟩
   ·induction j using Nat.strongRecOn with
    | ind j ihj=>
      cases Y:listed.getD j false with
      | true=>rfl
      | false=>
        exfalso;obtain⟨o,m⟩:∃o,ops[j]? =some o:=⟨ops[j],eL d⟩;have:j∈Region.ready .any ops listed:=mem_ready.2 ⟨by
         simp[show j<listed.size by omega]at Y⊢;exact Y,o,m,fun e B s=>by
         have:=hc.up j o m e B s;exact ihj e.on this (by omega)⟩
        rw[O]at this;cases this
   ·obtain⟨N,o,m,l⟩:=mem_ready.1 hi;have F:i<ops.size:=(cZ.1 m).1;have A:=Wt (by omega) N;have C:∀j,Wn o j=true->listed.getD j false=true/\j<i:=fun j d=>by
     obtain⟨e,B,s⟩:=Array.any_eq_true'.1 d;simp only[eh,aK]at s;rw[<-s.2];exact⟨l e B s.1,hc.up i o m e B s.1⟩
    obtain⟨b,s,T⟩:=(hcl vs).1 i o m;obtain⟨B,hw⟩:=t.exec hc s m (fun cs b=>Region.noSelect_spec hs i o cs b m) C;have c:=T w v fun j d=>z j (C j d).1;have next:∀u y,(K i).fits u->S y->wpAny P .any ops Q fuel (listed.setIfInBounds i true) (a.put o.dst u) y:=by
     intro u y V hy;have H:i<listed.size:=by omega
     have G:∀j,(listed.setIfInBounds i true).getD j false=true↔(listed.getD j false=true\/j=i):=fun j=>by
      by_cases E:i=j
      ·subst E;simp[H]
      ·rw[getD_set_ne false E];exact⟨.inl,fun h=>h.resolve_right fun e=>E e.symm⟩
     have L:=(t.congr (g:=fun j=>(K j).val (if j=i then u else vs j)) (fun _=>Iff.rfl) (fun j d=>by
      rw[Fl (fun e=>by rw[e,A]at d;cases d)])).put hc m (by rw[A];decide)
     rw[if_pos rfl,Kv.val_of V]at L;refine ih (listed.setIfInBounds i true) (a.put o.dst u) y (fun j=>if j=i then u else vs j) (by rw[Array.size_setIfInBounds];exact J) ?_ (L.congr (fun j=>(G j).symm) (fun _ _=>rfl)) hy fun j d=>?_
     ·have:=WE (p:=fun k=>!listed.getD k true) (q:=fun k=>!(listed.setIfInBounds i true).getD k true) (fun k U=>by
       by_cases M:i=k
       ·subst M;simp[H]at U
       ·rw[getD_set_ne true M]at U;exact U) (i:=i) (by simp[N]) (by simp[H]) (List.range ops.size) (gn.2 F)
      omega
     ·rcases(G j).1 d with h| rfl
      ·rw[Fl (fun e=>by rw[e,A]at h;cases h)];exact z j h
      ·rw[if_pos rfl];unfold Kv.holds;rw[Kv.val_of V];exact V
    unfold wpOp;simp only[m];rw[hw];split
    ·rename_i I;rw[if_pos I]at c;refine .inl ?_;unfold Oper.wp;rw[B];generalize (execOp b.eval o).run P w=r at*;cases r with
     | ok n w'=>
       cases n<;>simp only[Ww]at c<;>simp only[Oper.upon]
       case value u=>exact next u w' c.1 c.2
       case skip=>exact next undef w' c.1 c.2
       case enter f args=>
        refine Calls.mono c fun e Z hp=>?_;obtain⟨u,rfl,R,h2⟩:=hp;exact next u Z R h2
     | halt x w'=>exact absurd c (by simp[Ww])
    ·rename_i I;rw[Fl I]at c;exact next undef w c v
theorem Zx{id:Nat}{a:Act}{w:World}(S:World->Prop)(ks:List Kv)(hm:P.follows .mixedOrders=true)(hS:S w.drew)
  (h:∀vs:Nat->Value,wpI P ops S vs (fun j=>(ks.getD j (.fix undef)).holds (vs j)) (fun a'=>∀x,S x->(∀j,j<ops.size->(ks.getD j (.fix undef)).holds (vs j))->Q .normal a' x) ks 0 ops.toList a)
  (hB:(Region.noSelect ops&&(ks.length==ops.size&&Wx ops 0 ops.toList))=true):(Code.region id ops true).wp P Q a w:=by
 simp only[eh,aK]at hB;obtain⟨m,q,n⟩:=hB;have l:=WH n;have g:∀f:Nat->Value,ActIs ops a f (fun j=>j<0) a:=fun f=>⟨rfl,rfl,fun j o d _ _ h=>absurd h (Nat.not_lt_zero _),fun d _=>rfl⟩;have b:=fun vs:Nat->Value=>aaF (K:=fun j=>ks.getD j (.fix undef)) l ks 0 ops.toList a (h vs) (fun j=>by rw[bV];exact Array.getElem?_toList) (fun j c=>by
  rw[bV,List.getElem?_eq_getElem c];simp[List.getD_eq_getElem?_getD,List.getElem?_eq_getElem c]) (g _)
 have e:∀j,(Array.replicate ops.size false).getD j false=false:=fun j=>by
  rcases fj j ops.size with k| k<;>simp[k]
 refine wp_region_any hm (abu (S:=S) (a0:=a) (K:=fun j=>ks.getD j (.fix undef)) l m (fun vs=>⟨fun i o p=>(b vs).1 i o (ag _) p,(b vs).2⟩) ops.size _ a _ (fun _=>undef) (by simp) ?_ ((g _).congr (fun j=>by rw[e];simp) (fun _ _=>rfl)) hS (fun j c=>?_))
 ·refine aC (WJ _ _) ?_;rw[List.length_range];exact ac _
 ·rw[e]at c;cases c
theorem Zd{vs:Nat->Value}{H:Nat->Prop}{Qf:Act->Prop}{ks:List Kv}{k:Nat}{o:Oper}{l:List Oper}{a:Act}{v:Value}
  (hy:YieldsIf P ops S o v a)(h:wpI P ops S vs H Qf ks (k+1) l (a.put o.dst v)):wpI P ops S vs H Qf (.fix v :: ks) k (o :: l) a:=by
 refine⟨fun x d _=>?_,h⟩;rcases hy with ⟨b,c⟩ | ⟨b,c⟩
 ·rw[if_pos b,c x d];exact⟨rfl,d⟩
 ·rw[Fl (by rw[b];decide)];exact c.symm
theorem Zz{vs:Nat->Value}{H:Nat->Prop}{Qf:Act->Prop}{ks:List Kv}{k:Nat}{o:Oper}{l:List Oper}{a:Act}(R:Value->Prop)
  (hw:Region.wanted o (yielded ops a.tmps)=true)(hy:∀x,S x->(∀j,Wn o j=true->H j)->∃u,(execOp a.eval o).run P x= .ok (.value u) x/\R u)(h:wpI P ops S vs H Qf ks (k+1) l (a.put o.dst (vs k))):wpI P ops S vs H Qf (.rel R :: ks) k (o :: l) a:=
 ⟨fun x b e=>by
  obtain⟨u,c,d⟩:=hy x b e;rw[if_pos hw,c];exact⟨d,b⟩,h⟩
theorem Zm{vs:Nat->Value}{H:Nat->Prop}{Qf:Act->Prop}{ks:List Kv}{k:Nat}{o:Oper}{l:List Oper}{a:Act}{f:FuncId}{args:Array Value}(R:Value->Prop)
  (hc:∀x,S x->(∀j,Wn o j=true->H j)->Calls P f args x fun e y=>∃u,e= .returned u/\R u/\S y)(hw:Region.wanted o (yielded ops a.tmps)=true)
  (hr:∀x,S x->(execOp a.eval o).run P x= .ok (.enter f args) x)(h:wpI P ops S vs H Qf ks (k+1) l (a.put o.dst (vs k))):wpI P ops S vs H Qf (.rel R :: ks) k (o :: l) a:=
 ⟨fun x b c=>by
  rw[if_pos hw,hr x b];exact hc x b c,h⟩
theorem Zl{vs:Nat->Value}{H:Nat->Prop}{Qf:Act->Prop}{ks:List Kv}{k:Nat}{o:Oper}{l:List Oper}{a:Act}
  (hw:Region.wanted o (yielded ops a.tmps)=true)(hy:∀x,S x->(∀j,Wn o j=true->H j)->∃y,(execOp a.eval o).run P x= .ok .skip y/\S y)(h:wpI P ops S vs H Qf ks (k+1) l (a.put o.dst undef)):wpI P ops S vs H Qf (.fix undef :: ks) k (o :: l) a:=
 ⟨fun x e d=>by
  obtain⟨y,b,c⟩:=hy x e d;rw[if_pos hw,b];exact⟨rfl,c⟩,h⟩
theorem aaE{vs:Nat->Value}{H:Nat->Prop}{Qf:Act->Prop}{k:Nat}{a:Act}(h:Qf a):wpI P ops S vs H Qf [] k [] a:=h
end
end Go.Proofs.YtemooicddjimbaaGreatDoor
namespace Go.Proofs.YtemooicddjimbaaGreatDoor
open Go.RowKit Go.Proofs.Tryz
section
attribute [local go_sem ↓] bD bF bH bI bu
attribute [local go_sem] bc aD bh bg bK bJ bd aY be aO ax cI dC dB dt dj di dA dr dp dn bW co YK bZ YM cz cy cw cu YL YP YB bS bP bR
def Zi(u:Value):Prop:=∃a c,u= .slice a 0 c
theorem Z4{P:Program}{t ety:TypeId}(ht:P.underlying t=some (.slice ety))(hi:(P.info? ety).isSome=true)(A:Option Addr)(n c:Nat)(hn:n<=c)(X:Option Addr)(cx:Nat)(ty:TypeId)(w:World):
  (Builtin.append_ #[t,t] ty #[.slice A n c,.slice X 0 cx]).run P w= .ok (.slice A n c) w:=by
 obtain⟨i,hi⟩:=Option.isSome_iff_exists.1 hi;cases X<;>cases A<;>simp[Builtin.append_,run_underlying ht,sizeOf,typeInfo,hi,Builtin.lenOf,Builtin.firstCells,hn,loadCells,loadCellsFrom,storeCells]
theorem Zk{P:Program}{w:World}{ops:Array Oper}{rest:List Oper}{o:Oper}{a:Act}{Q:Exit->Act->World->Prop}(hgd:o.guard=none)(s x:Operand)(t ety:TypeId)
  (ho:o.op= .call {callee:=.builtin .append,args:=#[s,x],argTypes:=#[t,t]})(ht:P.underlying t=some (.slice ety))(hi:(P.info? ety).isSome=true)
  {A X:Option Addr}{n c cx:Nat}(hs:a.eval s= .slice A n c)(hn:n<=c)(hx:a.eval x= .slice X 0 cx)(h:wpList P ops Q rest (a.put o.dst (.slice A n c)) w):wpList P ops Q (o :: rest) a w:=by
 refine Y6 hgd fun _ b=>?_;unfold Oper.wp execOp;simp only[ho,resolve,invoke,builtin,Sem.run_bind,Sem.run_pure,ik,kD,fI,gC,hs,hx,Z4 ht hi A n c hn X cx];exact b _ _ h
theorem aaq(a:Option Addr)(c:Nat)(w:World):Calls prog 420 #[.slice a 0 c] w fun e w'=>∃u,e= .returned u/\Zi u/\Below w.heap.size w w':=by
 cases a with
 | none=>
   have d:(binOp BinOp.eql 24 (.slice none 0 c) (.slice none 0 0)).run prog w= .ok (.bool true) w:=by kernel_rfl
   go_enter func420,ntmps420;go_wp2;go_ret;exact⟨_,rfl,⟨_,_,rfl⟩,aq _ _⟩
 | some ad=>
   have d:(binOp BinOp.eql 24 (.slice (some ad) 0 c) (.slice none 0 0)).run prog w= .ok (.bool false) w:=by kernel_rfl
   have b:=aa ((aq w.heap.size w).alloc (ac _) (.cells #[] 3));go_enter func420,ntmps420
   go_wp2_with (at_builtin;refine Zk rfl (.tmp 5) (.tmp 6) 24 3 rfl underlying24 (by kernel_rfl) rfl (ac _) rfl ?_)
   go_wp2;go_ret;exact⟨_,rfl,⟨_,_,rfl⟩,b.o⟩
theorem aar(a:Option Addr)(c:Nat)(w:World):Calls prog 421 #[.slice a 0 c] w fun e w'=>∃u,e= .returned u/\Zi u/\Below w.heap.size w w':=by
 cases a with
 | none=>
   have d:(binOp BinOp.eql 47 (.slice none 0 c) (.slice none 0 0)).run prog w= .ok (.bool true) w:=by kernel_rfl
   go_enter func421,ntmps421;go_wp2;go_ret;exact⟨_,rfl,⟨_,_,rfl⟩,aq _ _⟩
 | some ad=>
   have d:(binOp BinOp.eql 47 (.slice (some ad) 0 c) (.slice none 0 0)).run prog w= .ok (.bool false) w:=by kernel_rfl
   have b:=aa ((aq w.heap.size w).alloc (ac _) (.cells #[] 90));go_enter func421,ntmps421
   go_wp2_with (at_builtin;refine Zk rfl (.tmp 5) (.tmp 6) 47 90 rfl underlying47 (by kernel_rfl) rfl (ac _) rfl ?_)
   go_wp2;go_ret;exact⟨_,rfl,⟨_,_,rfl⟩,b.o⟩
theorem Zy(a:Option Addr)(c:Nat)(w:World):Calls prog 416 #[.slice a 0 c] w fun e w'=>∃u,e= .returned u/\Zi u/\Below w.heap.size w w':=by
 cases a with
 | none=>
   have d:(binOp BinOp.eql 44 (.slice none 0 c) (.slice none 0 0)).run prog w= .ok (.bool true) w:=by kernel_rfl
   go_enter func416,ntmps416;go_wp2;go_ret;exact⟨_,rfl,⟨_,_,rfl⟩,aq _ _⟩
 | some ad=>
   have d:(binOp BinOp.eql 44 (.slice (some ad) 0 c) (.slice none 0 0)).run prog w= .ok (.bool false) w:=by kernel_rfl
   have b:=aa ((aq w.heap.size w).alloc (ac _) (.cells #[] 119));go_enter func416,ntmps416
   go_wp2_with (at_builtin;refine Zk rfl (.tmp 5) (.tmp 6) 44 119 rfl underlying44 (by kernel_rfl) rfl (ac _) rfl ?_)
   go_wp2;go_ret;exact⟨_,rfl,⟨_,_,rfl⟩,b.o⟩
theorem aaC(w:World):Calls prog 416 #[.slice none 0 0] w fun e w'=>e= .returned (.slice none 0 0)/\w=w':=by
 have a:(binOp BinOp.eql 44 (.slice none 0 0) (.slice none 0 0)).run prog w= .ok (.bool true) w:=by kernel_rfl
 go_enter func416,ntmps416;go_wp2;go_ret;exact⟨rfl,rfl⟩
theorem aaD(w:World):Calls prog 417 #[.slice none 0 0] w fun e w'=>e= .returned (.slice none 0 0)/\w=w':=by
 have a:(binOp BinOp.eql 63 (.slice none 0 0) (.slice none 0 0)).run prog w= .ok (.bool true) w:=by kernel_rfl
 go_enter func417,ntmps417;go_wp2;go_ret;exact⟨rfl,rfl⟩
structure NoLists (p:Pk):Prop where
 codes:p.codes=[]
 filters:p.filters=[]
 props:p.props=[]
 will:p.will.props=[]
theorem NoLists.at22{p:Pk}(n:NoLists p)(h:Hs):(pkC p h)[22]? =some (.slice h.codes.a 0 h.codes.c):=by rw[bS,n.codes];rfl
theorem NoLists.at23{p:Pk}(n:NoLists p)(h:Hs):(pkC p h)[23]? =some (.slice h.filters.a 0 h.filters.c):=by rw[bP,n.filters];rfl
theorem NoLists.at24{p:Pk}(n:NoLists p)(h:Hs):(pkC p h)[24]? =some (.slice h.props.a 0 h.props.c):=by rw[bR,n.props];rfl
theorem NoLists.at19{p:Pk}(n:NoLists p)(h:Hs):(pkC p h)[19]? =some (.slice h.wp.a 0 h.wp.c):=by rw[YL,n.will];rfl
theorem NoLists.set22{p:Pk}(n:NoLists p)(h:Hs)(a:Option Addr)(c:Nat):(pkC p h).setIfInBounds 22 (.slice a 0 c)=pkC p {h with codes:=⟨a,c⟩}:=by unfold pkC;rw[n.codes];rfl
theorem NoLists.set23{p:Pk}(n:NoLists p)(h:Hs)(a:Option Addr)(c:Nat):(pkC p h).setIfInBounds 23 (.slice a 0 c)=pkC p {h with filters:=⟨a,c⟩}:=by unfold pkC;rw[n.filters];rfl
theorem NoLists.set24{p:Pk}(n:NoLists p)(h:Hs)(a:Option Addr)(c:Nat):(pkC p h).setIfInBounds 24 (.slice a 0 c)=pkC p {h with props:=⟨a,c⟩}:=by unfold pkC;rw[n.props];rfl
theorem NoLists.set19{p:Pk}(n:NoLists p)(h:Hs)(a:Option Addr)(c:Nat):(pkC p h).setIfInBounds 19 (.slice a 0 c)=pkC p {h with wp:=⟨a,c⟩}:=by unfold pkC;rw[n.will];rfl
def CpS(w:World)(p:Pk)(x:World):Prop:=∃h,Bk x w.heap.size PkT (pkC p h)/\Bk x (w.heap.size+1) PkT (pkC pk0 hs0)/\Below w.heap.size w x
theorem CpS.set{w x:World}{p:Pk}{i:Nat}{v:Value}{h k:Hs}(e:(pkC p h).setIfInBounds i v=pkC p k)(hx:Bk x w.heap.size PkT (pkC p h)/\Bk x (w.heap.size+1) PkT (pkC pk0 hs0)/\Below w.heap.size w x):CpS w p (x.setCell ⟨w.heap.size,i,none⟩ v):=
 ⟨k,hx.1.upd i v e,hx.2.1.other (p:=⟨w.heap.size,i,none⟩) (show w.heap.size+1≠w.heap.size by omega) v,dw hx.2.2 (YR x w.heap.size i v) hx.2.2.size (ac _)⟩
theorem CpS.below{w x y:World}{p:Pk}(hx:CpS w p x)(hb:Below x.heap.size x y):CpS w p y:=by
 obtain⟨h,a,b,c⟩:=hx;exact⟨h,Yh a hb,Yh b hb,Yf c hb⟩
theorem aaV{cs:Array Value}{i:Nat}{v:Value}(h:cs[i]? =some v):cs.setIfInBounds i v=cs:=by
 apply Il;intro j
 by_cases e:i=j
 ·subst e;have a:i<cs.size:=(cZ.1 h).1;rw[h];simp[a]
 ·rw[eK e]
theorem Bk.same{w:World}{g:Nat}{t:TypeId}{cs:Array Value}(h:Bk w g t cs){i:Nat}{v:Value}(hv:cs[i]? =some v):Bk (w.setCell ⟨g,i,none⟩ v) g t cs:=h.upd i v (aaV hv)
theorem ZN(p:Pk)(h:Hs)(hn:NoLists p)(w:World):Calls prog 418 #[pkV p h] w fun e w'=>∃k,e= .returned (pkV p k)/\Below w.heap.size w w':=by
 have v:=aa hn.at22;have z:=aa hn.at23;have A:=aa hn.at24;have t:=aa hn.at19
 have q:=aa (fun(x y:World) (b:CpS w p x) (N:Below x.heap.size x y)=>b.below N);have E:=aa (fun(x:World) (k:Hs) (a:Option Addr) (c:Nat) (b:Bk x w.heap.size PkT (pkC p k)/\Bk x (w.heap.size+1) PkT (pkC pk0 hs0)/\Below w.heap.size w x)=>CpS.set (hn.set22 k a c) b);have F:=aa (fun(x:World) (k:Hs) (a:Option Addr) (c:Nat) (b:Bk x w.heap.size PkT (pkC p k)/\Bk x (w.heap.size+1) PkT (pkC pk0 hs0)/\Below w.heap.size w x)=>CpS.set (hn.set23 k a c) b);have G:=aa (fun(x:World) (k:Hs) (a:Option Addr) (c:Nat) (b:Bk x w.heap.size PkT (pkC p k)/\Bk x (w.heap.size+1) PkT (pkC pk0 hs0)/\Below w.heap.size w x)=>CpS.set (hn.set24 k a c) b);have D:=aa (fun(x:World) (k:Hs) (a:Option Addr) (c:Nat) (b:Bk x w.heap.size PkT (pkC p k)/\Bk x (w.heap.size+1) PkT (pkC pk0 hs0)/\Below w.heap.size w x)=>CpS.set (hn.set19 k a c) b);have K:Hid (CpS w p ((w.alloc (.cells (pkC p h) PkT)).alloc (.cells (pkC pk0 hs0) PkT)).drew):=aa
  ⟨h,((Bk.fresh w PkT (pkC p h)).alloc _).drewN 1,((by simpa using Bk.fresh (w.alloc (.cells (pkC p h) PkT)) PkT (pkC pk0 hs0):Bk _ (w.heap.size+1) PkT (pkC pk0 hs0))).drewN 1,aV (((aq w.heap.size w).alloc (ac _) (.cells (pkC p h) PkT)).alloc (by simp) (.cells (pkC pk0 hs0) PkT)) 1⟩
 clear hn;go_enter func418,ntmps418
 go_wp2_with fail
 apply Zx (CpS w p)
 ·kernel_rfl
 ·exact K.o
 focus
  intro s
  repeat (apply Zd
          focus (refine Or.inl ⟨rfl,fun x b=>?_⟩;go_simp;(try with_reducible rfl);done)
          try simp only[Act.put,af,am,ak])
  apply Zz Zi
  ·rfl
  ·intro x b _;obtain⟨k,d,g,i⟩:=b;have o:=(d.cell 22).trans (v.o k);exact⟨.slice k.codes.a 0 k.codes.c,by go_simp,⟨_,_,rfl⟩⟩
  apply Zm (f:=420) (args:=#[s 1]) Zi
  ·intro x b j;obtain⟨a,c,e⟩:=(show Zi (s 1)from j 1 (by kernel_rfl));rw[e];refine(aaq a c x).mono fun e y h=>?_;obtain⟨u,l,m,n⟩:=h;exact⟨u,l,m,q.o x y b n⟩
  ·rfl
  ·intro x b;go_simp
  repeat (apply Zd
          focus (refine Or.inl ⟨rfl,fun x b=>?_⟩;go_simp;(try with_reducible rfl);done)
          try simp only[Act.put,af,am,ak])
  apply Zz Zi
  ·rfl
  ·intro x b _;obtain⟨k,d,g,i⟩:=b;have o:=(d.cell 23).trans (z.o k);exact⟨.slice k.filters.a 0 k.filters.c,by go_simp,⟨_,_,rfl⟩⟩
  apply Zm (f:=421) (args:=#[s 4]) Zi
  ·intro x b j;obtain⟨a,c,e⟩:=(show Zi (s 4)from j 4 (by kernel_rfl));rw[e];refine(aar a c x).mono fun e y h=>?_;obtain⟨u,l,m,n⟩:=h;exact⟨u,l,m,q.o x y b n⟩
  ·rfl
  ·intro x b;go_simp
  repeat (apply Zd
          focus (refine Or.inl ⟨rfl,fun x b=>?_⟩;go_simp;(try with_reducible rfl);done)
          try simp only[Act.put,af,am,ak])
  apply Zl
  ·rfl
  ·intro x b j;obtain⟨a,c,e⟩:=(show Zi (s 2)from j 2 (by kernel_rfl));rw[e];obtain⟨k,d,g,i⟩:=b;have I:=d.free 22;have o:=(d.cell 22).trans (v.o k);refine⟨x.setCell ⟨w.heap.size,22,none⟩ (.slice a 0 c),?_,E.o x k a c ⟨d,g,i⟩⟩;go_simp
  repeat (apply Zd
          focus (refine Or.inl ⟨rfl,fun x b=>?_⟩;go_simp;(try with_reducible rfl);done)
          try simp only[Act.put,af,am,ak])
  apply Zl
  ·rfl
  ·intro x b j;obtain⟨a,c,e⟩:=(show Zi (s 5)from j 5 (by kernel_rfl));rw[e];obtain⟨k,d,g,i⟩:=b;have I:=d.free 23;have o:=(d.cell 23).trans (z.o k);refine⟨x.setCell ⟨w.heap.size,23,none⟩ (.slice a 0 c),?_,F.o x k a c ⟨d,g,i⟩⟩;go_simp
  apply aaE;intro x b _;have M:=aa (b.below (aV (aq _ _) 1));clear b K
  go_wp2_with fail
  apply Zx (CpS w p)
  ·kernel_rfl
  ·exact M.o
  focus
   intro r
   repeat (apply Zd
           focus (refine Or.inl ⟨rfl,fun x b=>?_⟩;go_simp;(try with_reducible rfl);done)
           try simp only[Act.put,af,am,ak])
   apply Zz Zi
   ·rfl
   ·intro x b _;obtain⟨k,d,g,i⟩:=b;have o:=(d.cell 24).trans (A.o k);exact⟨.slice k.props.a 0 k.props.c,by go_simp,⟨_,_,rfl⟩⟩
   apply Zm (f:=416) (args:=#[r 1]) Zi
   ·intro x b j;obtain⟨a,c,e⟩:=(show Zi (r 1)from j 1 (by kernel_rfl));rw[e];refine(Zy a c x).mono fun e y h=>?_;obtain⟨u,l,m,n⟩:=h;exact⟨u,l,m,q.o x y b n⟩
   ·rfl
   ·intro x b;go_simp
   repeat (apply Zd
           focus (refine Or.inl ⟨rfl,fun x b=>?_⟩;go_simp;(try with_reducible rfl);done)
           try simp only[Act.put,af,am,ak])
   apply Zz Zi
   ·rfl
   ·intro x b _;obtain⟨k,d,g,i⟩:=b;have o:=(d.cell 19).trans (t.o k);exact⟨.slice k.wp.a 0 k.wp.c,by go_simp,⟨_,_,rfl⟩⟩
   apply Zm (f:=416) (args:=#[r 5]) Zi
   ·intro x b j;obtain⟨a,c,e⟩:=(show Zi (r 5)from j 5 (by kernel_rfl));rw[e];refine(Zy a c x).mono fun e y h=>?_;obtain⟨u,l,m,n⟩:=h;exact⟨u,l,m,q.o x y b n⟩
   ·rfl
   ·intro x b;go_simp
   repeat (apply Zd
           focus (refine Or.inl ⟨rfl,fun x b=>?_⟩;go_simp;(try with_reducible rfl);done)
           try simp only[Act.put,af,am,ak])
   apply Zl
   ·rfl
   ·intro x b j;obtain⟨a,c,e⟩:=(show Zi (r 2)from j 2 (by kernel_rfl));rw[e];obtain⟨k,d,g,i⟩:=b;have I:=d.free 24;have o:=(d.cell 24).trans (A.o k);refine⟨x.setCell ⟨w.heap.size,24,none⟩ (.slice a 0 c),?_,G.o x k a c ⟨d,g,i⟩⟩;go_simp
   repeat (apply Zd
           focus (refine Or.inl ⟨rfl,fun x b=>?_⟩;go_simp;(try with_reducible rfl);done)
           try simp only[Act.put,af,am,ak])
   apply Zl
   ·rfl
   ·intro x b j;obtain⟨a,c,e⟩:=(show Zi (r 6)from j 6 (by kernel_rfl));rw[e];obtain⟨k,d,g,i⟩:=b;have I:=d.free 19;have o:=(d.cell 19).trans (t.o k);refine⟨x.setCell ⟨w.heap.size,19,none⟩ (.slice a 0 c),?_,D.o x k a c ⟨d,g,i⟩⟩;go_simp
   apply aaE;intro y O _;obtain⟨k,H,B,C⟩:=O;have P:=cf H;have Q:=aW B p k;have L:=aa (cO B p k);have J:=aa (dw C (cJ y (w.heap.size+1) p k) C.size (IT _));clear H B C;go_wp2;refine av (fz rfl _ rfl L.o) rfl ?_;exact⟨k,rfl,J.o⟩
  all_goals kernel_rfl
 all_goals kernel_rfl
abbrev EvT:TypeId:=72
def evC(pr kd:Int)(p:Pk)(h:Hs):Array Value:=#[.int .i64 pr,.int .i64 kd,.string ⟨#[]⟩,.string ⟨#[]⟩,.int .i64 0,.bool false,.bool false,.int .i64 0,.slice none 0 0,.int .i64 0,.slice none 0 0,.int .i64 0]++(pkC p h++
 #[.int .i64 0,.bool false,.int .i64 0,.bool false,.bool false,.bool false,.int .i64 0,.int .i64 0,.int .i64 0,.int .i64 0,.bool false,.int .i64 0,.int .i64 0,.int .i64 0,.string ⟨#[]⟩,.string ⟨#[]⟩,.int .i64 0,.int .i64 0,.string ⟨#[]⟩,.slice none 0 0])
def evV(pr kd:Int)(p:Pk)(h:Hs):Value:=.agg (evC pr kd p h)
def aaQ(v:Value):Sem Value:=Instr.loadAt EvT v
def abq(v:Value):Sem Value:=Instr.box EvT v
def abt(v:Array (Nat×Value)):Sem Value:=Instr.build EvT v
def abv(b:Bool)(v:Value):Sem Value:=Instr.alloc EvT b v
def aaM(a v:Value):Sem Unit:=Instr.storeAt EvT a v
def abr(v:Array (Nat×Value)):Sem Value:=Instr.buildSlice 60 1 v
theorem ZW(v:Value):Instr.loadAt EvT v=aaQ v:=rfl
theorem ZX(v:Value):Instr.box EvT v=abq v:=rfl
theorem ZY(v:Array (Nat×Value)):Instr.build EvT v=abt v:=rfl
theorem ZZ(b:Bool)(v:Value):Instr.alloc EvT b v=abv b v:=rfl
theorem ZV(a v:Value):Instr.storeAt EvT a v=aaM a v:=rfl
theorem aaG(v:Array (Nat×Value)):Instr.buildSlice 60 1 v=abr v:=rfl
theorem Y5(pr kd:Int)(p:Pk)(h:Hs):(evC pr kd p h).size=57:=by kernel_rfl
theorem aaK:(prog.info? EvT).map (·.size)=some 57:=by kernel_rfl
theorem ZC(pr kd:Int)(p:Pk)(h:Hs)(w:World):(abq (evV pr kd p h)).run prog w= .ok (.pointer (some ⟨w.heap.size,0,none⟩)) (w.alloc (.cells (evC pr kd p h) EvT)):=by kernel_rfl
theorem ZE(w:World):(abv true (.tuple #[])).run prog w= .ok (.pointer (some ⟨w.heap.size,0,none⟩)) (w.alloc (.cells (evC 0 0 pk0 hs0) EvT)):=by kernel_rfl
theorem ZD(pr kd:Int)(p:Pk)(h:Hs)(w:World):(abt #[(0,.int .i64 pr),(1,.int .i64 kd),(12,pkV p h)]).run prog w= .ok (evV pr kd p h) w:=by kernel_rfl
theorem aaf(pr kd:Int)(p:Pk)(h:Hs)(w:World):(abr #[(0,evV pr kd p h)]).run prog w= .ok (.slice (some ⟨w.heap.size,0,none⟩) 1 1) (w.alloc (.cells (evC pr kd p h) EvT)):=by kernel_rfl
theorem aaJ{w:World}{g:Nat}{pr kd:Int}{p:Pk}{h:Hs}(hb:Bk w g EvT (evC pr kd p h)):(aaQ (.pointer (some ⟨g,0,none⟩))).run prog w= .ok (evV pr kd p h) w:=by
 unfold aaQ;have a:w.rangeAt g 0 (evC pr kd p h).toList:=fun j v b=>by
  rw[bV,hb.cell]
  simpa using b
 have:=run_loadAt_mid w g 0 EvT (evC pr kd p h).toList _ a underlying72 rfl (by rw[fT,Y5];exact aaK);rw[Array.toArray_toList]at this;exact this
theorem aa3(pr kd:Int)(p:Pk)(h:Hs)(j:Nat)(hj:j<25):(evC pr kd p h)[12+j]? =(pkC p h)[j]? :=by
 unfold evC;rw[Array.getElem?_append_right (by simp),show 12+j- (#[Value.int .i64 pr,.int .i64 kd,.string ⟨#[]⟩,.string ⟨#[]⟩,.int .i64 0,.bool false,.bool false,.int .i64 0,.slice none 0 0,.int .i64 0,.slice none 0 0,.int .i64 0]).size=j by simp,Array.getElem?_append_left (by rw[bo];exact hj)]
theorem abf{w:World}{g:Nat}{pr kd:Int}{p:Pk}{h:Hs}(hb:Bk w g EvT (evC pr kd p h)):(kZ (.pointer (some ⟨g,12,none⟩))).run prog w= .ok (pkV p h) w:=by
 unfold kZ;have b:w.rangeAt g 12 (pkC p h).toList:=fun j v a=>by
  have c:j<25:=by
   have:=(YI.1 a).1
   simpa [bo]using this
  rw[hb.cell,aa3 _ _ _ _ _ c]
  simpa using a
 exact run_loadAt_mid w g 12 PkT (pkC p h).toList _ b underlying49 rfl (by rw[fT,bo];exact tk)
theorem aac{w:World}{g:Nat}{pr kd:Int}{p:Pk}{h:Hs}(hb:Bk w g EvT (evC pr kd p h))(a n:Nat)(ha:a+n<=57):w.there g a n:=fun j b=>by
 rw[hb.cell,hb.free];refine⟨?_,rfl⟩;rw[eL (by rw[Y5];omega)];rfl
theorem abi(pr kd:Int)(p:Pk)(h:Hs):(evC pr kd p h).all (·.oneCell')=true:=by simp[evC,pkC,Value.oneCell']
def aaZ(w:World)(g:Nat)(pr kd:Int)(p:Pk)(h:Hs):World:=w.setCells g 0 (evC pr kd p h).toList
theorem ZB{w:World}{g:Nat}{pr kd pr' kd':Int}{p q:Pk}{h k:Hs}(hb:Bk w g EvT (evC pr kd p h)):(aaM (.pointer (some ⟨g,0,none⟩)) (evV pr' kd' q k)).run prog w= .ok () (aaZ w g pr' kd' q k):=by
 unfold aaM;exact run_storeAt_mid w g 0 EvT (evC pr' kd' q k) (by rw[Y5];exact aac hb 0 57 (by omega)) (by rw[Y5];exact aaK) (abi pr' kd' q k)
theorem Za(g:Nat):∀(vs:List Value) (o:Nat) (w x:World),w.grownBy x (some g)->w.grownBy (x.setCells g o vs) (some g)
 | [],_,_,_,hx=>hx
 | v :: vs,o,w,x,hx=>Za g vs (o+1) w _ (hx.trans (YR x g o v))
theorem aaY{w:World}{g:Nat}{pr kd:Int}{p:Pk}{h:Hs}(hb:Bk w g EvT (evC pr kd p h))(pr' kd':Int)(q:Pk)(k:Hs):Bk (aaZ w g pr' kd' q k) g EvT (evC pr' kd' q k):=by
 have:=oH (evC pr' kd' q k).toList 0 hb;rw[qa (by rw[Y5,Y5])]at this;exact this
theorem abh(pr kd:Int)(p:Pk)(h k:Hs)(i:Nat)(hi:i<12\/37<=i):(evC pr kd p h)[i]? =(evC pr kd p k)[i]? :=by
 unfold evC;rcases hi with hi| hi
 ·rw[Array.getElem?_append_left (by simpa using hi),Array.getElem?_append_left (by simpa using hi)]
 ·rw[Array.getElem?_append_right (show 12<=i by omega),Array.getElem?_append_right (by rw[bo];show 25<=i- 12;omega),Array.getElem?_append_right (show 12<=i by omega),Array.getElem?_append_right (by rw[bo];show 25<=i- 12;omega),bo,bo]
theorem abb(pr kd:Int)(p:Pk)(h k:Hs):nP (evC pr kd p h) 12 (pkC p k).toList=evC pr kd p k:=by
 apply Il;intro i
 by_cases c:i<57
 ·rw[yr _ _ _ _ (by rw[Y5];exact c)];have b:(pkC p k).toList.length=25:=by rw[fT,bo]
  by_cases a:12<=i/\i<12+(pkC p k).toList.length
  ·rw[if_pos a];rw[b]at a;have:=aa3 pr kd p k (i- 12) (by omega);rw[show 12+(i- 12)=i by omega]at this;rw[this];simp
  ·rw[Fl a];rw[b]at a;exact abh pr kd p h k i (by omega)
 ·rw[Array.getElem?_eq_none (by rw[rS,Y5];omega),Array.getElem?_eq_none (by rw[Y5];omega)]
theorem aaw{w:World}{g:Nat}{pr kd:Int}{p:Pk}{h:Hs}(hb:Bk w g EvT (evC pr kd p h))(k:Hs):(zc (.pointer (some ⟨g,12,none⟩)) (pkV p k)).run prog w= .ok () (w.setCells g 12 (pkC p k).toList)/\Bk (w.setCells g 12 (pkC p k).toList) g EvT (evC pr kd p k):=by
 refine⟨?_,?_⟩
 ·unfold zc;exact run_storeAt_mid w g 12 PkT (pkC p k) (by rw[bo];exact aac hb 12 25 (by omega)) (by rw[bo];exact tk) (yy p k)
 ·have:=oH (pkC p k).toList 12 hb;rw[abb]at this;exact this
theorem abm{w:World}{g:Nat}{pr kd:Int}{p:Pk}{h:Hs}(hb:Bk w g EvT (evC pr kd p h)):(loadVar EvT ⟨g,0,none⟩).run prog w= .ok (evV pr kd p h) w:=by
 have a:=aaJ hb;unfold aaQ at a;generalize evV pr kd p h=V at a⊢
 simpa only[Instr.loadAt,Instr.sureAddr,Sem.run_bind,Sem.run_pure,ik]using a
theorem ZF{fn:Func}{p:Tmp}(hr:fn.results= #[.cell p EvT])(tmps:Array Value){w:World}{g:Nat}{pr kd:Int}{q:Pk}{h:Hs}(hp:tmps.getD p undef= .pointer (some ⟨g,0,none⟩))(hb:Bk w g EvT (evC pr kd q h)):
  (results fn tmps).run prog w= .ok (evV pr kd q h) w:=by
 have b:=abm hb;have e:(results fn tmps).run prog w=((asAddr (tmps.getD p undef)).run prog w).andThen fun a c=>(loadVar EvT a).run prog c:=by
  simp only[results,hr];simp[Sem.run_bind,Result.andThen]
 rw[e,hp];generalize evV pr kd q h=V at b⊢;exact kG _ (⟨g,0,none⟩:Addr) w _ rfl |>.trans b
theorem aax{fn:Func}{p u:Tmp}(hr:fn.results= #[.cell p EvT,.tmp u])(tmps:Array Value){w:World}{g:Nat}{pr kd:Int}{q:Pk}{h:Hs}(hp:tmps.getD p undef= .pointer (some ⟨g,0,none⟩))(hb:Bk w g EvT (evC pr kd q h)):
  (results fn tmps).run prog w= .ok (.tuple #[evV pr kd q h,tmps.getD u undef]) w:=by
 rw[results_cell_tmp hr,hp];have a:=abm hb;generalize evV pr kd q h=V at a⊢;exact kG _ (⟨g,0,none⟩:Addr) w _ rfl |>.trans (kG _ V w _ a)
end
end Go.Proofs.YtemooicddjimbaaGreatDoor
