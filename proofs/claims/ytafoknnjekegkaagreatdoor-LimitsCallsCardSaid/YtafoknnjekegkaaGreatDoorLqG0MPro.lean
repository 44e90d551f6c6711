/- Parts: MPro. -/
import Derived.Test.YtafoknnjekegkaaGreatDoorLqG0MTop
import Derived.Deep.RegionHeld3
import Derived.Deep.DrawnRows
set_option maxRecDepth 10000
set_option maxHeartbeats 8000000
namespace Go.Proofs.YtafoknnjekegkaaGreatDoor
open Go.RowKit Go.Proofs.Tryz
variable {P:Program}{w:abP}{t:TypeId}{o:Oper}{v:Value}
section
structure Rule where
 shape:Nat
 kinds:Nat
 least:Nat
 most:Nat
def Rule.val(r:Rule):Value:=.agg #[.int .i64 r.shape,.int .i64 r.kinds,.int .u32 r.least,.int .u32 r.most]
def dQ:List (Nat×Rule):=[(1,⟨1,65544,0,1⟩),(2,⟨3,65544,0,4294967295⟩),(3,⟨5,65544,0,0⟩),(8,⟨5,65544,0,0⟩),(9,⟨6,65544,0,0⟩),(11,⟨4,264,1,268435455⟩),(17,⟨3,16390,0,4294967295⟩),(18,⟨5,4,0,0⟩),(19,⟨2,4,0,65535⟩),(21,⟨5,32774,0,0⟩),(22,⟨6,32774,0,0⟩),(23,⟨1,2,0,1⟩),(24,⟨3,65536,0,4294967295⟩),(25,⟨1,2,0,1⟩),(26,⟨5,4,0,0⟩),(28,⟨5,16388,0,0⟩),(31,⟨5,51956,0,0⟩),(33,⟨2,6,1,65535⟩),(34,⟨2,6,0,65535⟩),(35,⟨2,8,1,65535⟩),(36,⟨1,4,0,1⟩),(37,⟨1,4,0,1⟩),(38,⟨7,118782,0,0⟩),(39,⟨3,6,1,4294967295⟩),(40,⟨1,4,0,1⟩),(41,⟨1,4,0,1⟩),(42,⟨1,4,0,1⟩)]
def sq(i:Nat)(p:Nat×Rule):MapEntry:={key:=.int .i64 p.1,val:=p.2.val,born:=i}
def gK:Nat->List (Nat×Rule)->List MapEntry
 | _,[]=>[]
 | i,p :: l=>sq i p :: gK (i+1) l
theorem acf(i:Nat)(l:List (Nat×Rule))(p:Nat×Rule):gK i (l++[p])=gK i l++[sq (i+l.length) p]:=by
 induction l generalizing i with
 | nil=>rfl
 | cons q l ih=>simp[gK,ih,Nat.add_assoc,Nat.add_comm 1]
def kf(w:abP)(r n:Nat):Prop:=w.heap[r]? =some (.map (gK 0 (dQ.take n)).toArray n)
def Tab(w:abP)(r:Nat):Prop:=kf w r 27
def cr(id:Int):Rule:=((dQ.find? λp=>(p.1:Int)==id).map (·.2)).getD ⟨0,0,0,0⟩
section
variable {w w':abP} {r n:Nat}
theorem kf.lt(h:kf w r n):r<w.heap.size:=(cZ.1 h).1
theorem kf.below{B:Nat}(h:kf w r n)(hb:Below B w w')(hr:r<B):kf w' r n:=(hb.block r hr).trans h
theorem kf.alloc(h:kf w r n)(o:Obj):kf (w.alloc o) r n:=(UC w o r h.lt).trans h
end
theorem sk(key:Int):∀(l:List (Nat×Rule)) (i j:Nat),(∀p∈l,(p.1:Int)≠key)->Instr.findNow (.int .i64) (.int .i64 key) (gK i l) j=some none
 | [],_,_,_=>rfl
 | p :: l,i,j,h=>by
   have h0:=h p (.head _);have:(key==(p.1:Int))=false:=by simpa using λe=>h0 e.symm
   simp[gK,sq,Instr.findNow,Instr.sameNow,this];exact sk key l _ _ (λq a=>h q (.tail _ a))
theorem sj(key:Int):∀(l:List (Nat×Rule)) (i j:Nat),∃o,Instr.findNow (.int .i64) (.int .i64 key) (gK i l) j=some o/\o.map (·.2)=(l.find? λp=>(p.1:Int)==key).map (·.2.val)
 | [],_,_=>⟨none,rfl,rfl⟩
 | p :: l,i,j=>by
   by_cases h:key=(p.1:Int)
   ·refine⟨some (j,p.2.val),?_,?_⟩
    ·subst h;simp[gK,sq,Instr.findNow,Instr.sameNow]
    ·subst h;simp
   ·have h1:(key==(p.1:Int))=false:=by simpa using h
    have a:((p.1:Int)==key)=false:=by simpa using λe=>h e.symm
    obtain⟨o,c,b⟩:=sj key l (i+1) (j+1);exact⟨o,by simp[gK,sq,Instr.findNow,Instr.sameNow,h1];exact c,by simp[List.find?,a];simpa using b⟩
theorem xb{k e:TypeId}{r n:Nat}(ht:P.underlying t=some (.map k e))(hk:P.underlying k=some (.int .i64))(h:kf w r n)(p:Nat×Rule)(hp:dQ[n]? =some p)
  (hu:∀q∈dQ.take n,(q.1:Int)≠(p.1:Int)):∃w',(Instr.mapUpdate t (.map (some r)) (.int .i64 p.1) p.2.val).run P w= .ok () w'/\kf w' r (n+1)/\w.grownBy w' (some r):=by
 have j:=jW (P:=P) h;have f:=MapKept.run_checkKey (P:=P) (w:=w) (kt:=k) (d:=.int .i64) (k:=.int .i64 p.1) hk rfl false 9999;have g:=MapKept.run_findKey (P:=P) (w:=w) (kt:=k) (d:=.int .i64) (k:=.int .i64 p.1) (l:=gK 0 (dQ.take n)) (a:=none) hk (sk _ _ _ _ hu);have s:=λo=>MapKept.run_setObj_map (P:=P) o h;have u:n<dQ.length:=(YI.1 hp).1;have c:(dQ.take (n+1))=dQ.take n++[p]:=by
  rw[List.take_add_one,hp];rfl
 have b:(dQ.take n).length=n:=by simp;omega
 refine⟨_,by
  unfold Instr.mapUpdate;simp only[Sem.run_bind,run_underlying ht,j,f,g,Result.andThen];exact s _,?_,?_⟩
 ·unfold kf;rw[c,acf,b];simp[h.lt,sq]
 ·exact⟨rfl,rfl,rfl,by simp,λi _ m=>by
   have:r≠i:=λe=>m (by rw[e]);simp[this]⟩
theorem tO{P:Program}(w:abP){ops:Array Oper}{rest:List Oper}{o:Oper}{a:Act}{Q:Exit->Act->abP->Prop}
  (hg:o.guard=none)(m x v:Operand)(t:TypeId)(hop:o.op=Op.insert t m x v)(k e:TypeId)(ht:P.underlying t=some (.map k e))(hk:P.underlying k=some (.int .i64))
  (r n:Nat)(hm:a.eval m= .map (some r))(h:kf w r n)(p:Nat×Rule)(hp:dQ[n]? =some p)(hx:a.eval x= .int .i64 p.1)(hv:a.eval v=p.2.val)
  (hu:∀q∈dQ.take n,(q.1:Int)≠(p.1:Int))(hK:∀w',kf w' r (n+1)->w.grownBy w' (some r)->wpList P ops Q rest (a.put o.dst undef) w'):
  wpList P ops Q (o :: rest) a w:=by
 refine Y6 hg λg c=>?_;obtain⟨w',b,d,f⟩:=xb ht hk h p hp hu;unfold Oper.wp;simp[execOp,hop,hm,hx,hv,b,Result.andThen];exact c _ _ (hK w' d f)
theorem Cp{k e:TypeId}{r:Nat}(ht:P.underlying t=some (.map k e))(hk:P.underlying k=some (.int .i64))(hz:(zeroValue e).run P w= .ok (Rule.val ⟨0,0,0,0⟩) w)(h:Tab w r)(id:Int):
  (Instr.lookup t (.map (some r)) (.int .i64 id) false).run P w= .ok (cr id).val w:=by
 have m:=jW (P:=P) h;have i:=λb=>MapKept.run_checkKey (P:=P) (w:=w) (kt:=k) (d:=.int .i64) (k:=.int .i64 id) hk rfl b 9999;obtain⟨o,n,c⟩:=sj id (dQ.take 27) 0 0;have j:=MapKept.run_findKey (P:=P) (w:=w) (kt:=k) (d:=.int .i64) (k:=.int .i64 id) (l:=gK 0 (dQ.take 27)) (a:=o) hk n;unfold Instr.lookup;simp only[Sem.run_bind,run_underlying ht,m,i,Result.andThen,Sem.run_pure,j];have f:dQ.take 27=dQ:=rfl;rw[f]at c;unfold cr;cases g:dQ.find? λp=>(p.1:Int)==id with
 | none=>
   rw[g]at c;cases o with
   | none=>simp[hz]
   | some a=>simp at c
 | some p=>
   rw[g]at c;cases o with
   | none=>simp at c
   | some a=>simp at c;simp[c,Sem.run_pure]
theorem rK(w:abP):Calls prog 219 #[] w λe w'=>e= .returned (.map (some w.heap.size))/\Tab w' w.heap.size/\abQ w w':=by
 have h:=@run_makeMap prog;have b:=aa (show kf (w.alloc (.map #[] 0)) w.heap.size 0 from me w _);have a:=aa ((aq w.heap.size w).alloc (ac _) (.map #[] 0));go_enter func219,ntmps219;go_wp2_with (refine tO _ rfl _ _ _ 193 rfl 3 198 (by kernel_rfl) (by kernel_rfl) w.heap.size _ rfl b.o _ rfl rfl rfl (by decide) ?_;intro i c f;have d:=a.o.grown f (a.o.size) (λk g=>by cases g;exact ac _);clear b a f;have b:=aa c;have a:=aa d;clear c d);exact abZ (v:=.map (some w.heap.size)) (by simp[results,Tryz.results219,go_sem]) rfl ⟨rfl,b.o,a.o⟩
def oo(r:Rule):Prop:=r.shape<=7/\r.kinds<131072/\r.least<4294967296/\r.most<4294967296
instance (r:Rule):Decidable (oo r):=by unfold oo;infer_instance
theorem nL(id:Int):oo (cr id):=by
 unfold cr;cases a:dQ.find? λp=>(p.1:Int)==id with
 | none=>exact(by decide)
 | some p=>
   have h:∀p∈dQ,oo p.2:=by decide
   exact h p (jc a)
theorem acr(W:abP):(zeroValue 198).run prog W= .ok (Rule.val ⟨0,0,0,0⟩) W:=by
 obtain⟨e,b,a,c,d⟩:=o8 (show(prog.info? 198).map (λi=>(i.zero,i.size,i.bytes))=some (some (Rule.val ⟨0,0,0,0⟩),4,24) by kernel_rfl);simp[zeroValue,typeInfo,b,a,Result.andThen]
end
def ng(r:Rule)(kind:Int):Bool:=decide (1<=kind)&&(decide (kind<=16)&&r.kinds.testBit kind.toNat)
theorem Du(a k:Nat)(ha:a<131072)(hk:k<=16):(bits BinOp.and IntKind.i64 ((a:Int) / 2^ min (IntKind.u64.wrap (k:Int)).toNat 64) 1==1)=a.testBit k:=by
 have b:min (IntKind.u64.wrap (k:Int)).toNat 64=k:=by rw[iZ];omega
 rw[b];have c:((a:Int) / 2^ k)=((a/ 2^ k:Nat):Int):=by push_cast;rfl
 have d:a/ 2^ k<=a:=Nat.div_le_self _ _;rw[c,show(1:Int)=((2^ 1- 1:Nat):Int)from rfl,Ew _ 1 (by omega) (by omega),Nat.testBit_eq_decide_div_mod_eq];generalize a/ 2^ k=x;by_cases h:x% 2=1
 ·simp[h]
 ·have:x% 2=0:=by omega
  simp[this]
theorem vr(r:Rule)(hr:oo r)(kind:Int)(w:abP):
  abR 280 #[r.val,.int .i64 kind] w (.bool (ng r kind)):=by
 obtain⟨j,f,le,i⟩:=r;have h:=aa hr;clear hr
 simp only[Rule.val];by_cases b:1<=kind
 ·by_cases a:kind<=16
  ·have c:decide (1<=kind)=true:=by simpa using b
   have d:decide (kind<=16)=true:=by simpa using a
   obtain⟨k,rfl⟩:∃k:Nat,kind=k:=⟨kind.toNat,by omega⟩;have H:=aa (And.intro b a);clear b a
   go_enter func280,ntmps280;go_wp2;have g:=h.o.2.1;exact abZ (v:=.bool (f.testBit k)) (by simp[results,Tryz.results280,go_sem];exact Du f k (by simpa using g) (by have:=H.o;omega)) rfl ⟨by simp[ng,c,d],(aq _ _).alloc (ac _) _⟩
  ·have c:decide (1<=kind)=true:=by simpa using b
   have d:decide (kind<=16)=false:=by simpa using a
   clear b a;go_enter func280,ntmps280;go_wp2;exact abZ (v:=.bool false) (by simp[results,Tryz.results280,go_sem]) rfl ⟨by simp[ng,d],(aq _ _).alloc (ac _) _⟩
 ·have c:decide (1<=kind)=false:=by simpa using b
  clear b;go_enter func280,ntmps280;go_wp2;exact abZ (v:=.bool false) (by simp[results,Tryz.results280,go_sem]) rfl ⟨by simp[ng,c],(aq _ _).alloc (ac _) _⟩
theorem rL(id:Int):∃sh ki le mo:Nat,Hid (cr id=⟨sh,ki,le,mo⟩)/\∀(w:abP) (r:Nat),Tab w r->
  (Instr.lookup 193 (.map (some r)) (.int .i64 id) false).run prog w= .ok (.agg #[.int .i64 sh,.int .i64 ki,.int .u32 le,.int .u32 mo]) w:=by
 obtain⟨R,a⟩:∃R,R=cr id:=⟨_,rfl⟩;obtain⟨sh,ki,le,mo⟩:=R;refine⟨sh,ki,le,mo,aa a.symm,λw r h=>?_⟩;have:=Cp (P:=prog) (t:=193) (k:=3) (e:=198) (w:=w) (by kernel_rfl) (by kernel_rfl) (acr w) h id;rw[<-a]at this;exact this
def gH(id:Int):Nat:=(cr id).shape
def Jv(kind id:Int):Bool:=ng (cr id) kind
def gS(kind id:Int):Bool:=id==38 || (id==11&&kind==3)
def Km(kind id:Int):Bool:=gS kind id&&Jv kind id
theorem zJ(kind id:Int)(w:abP):
  Calls prog 282 #[.int .i64 kind,.int .i64 id] w λe w'=>e= .returned (.bool (gS kind id))/\w'=w:=by
 by_cases a:id=38
 ·have b:(id==38)=true:=by simpa using a
  clear a;go_enter func282,ntmps282;go_wp2;exact abZ (v:=.bool (gS kind id)) (by simp[results,Tryz.results282,go_sem,gS,b]) rfl ⟨rfl,rfl⟩
 ·have b:(id==38)=false:=by simpa using a
  by_cases c:id=11
  ·have d:(id==11)=true:=by simpa using c
   clear a c;go_enter func282,ntmps282;go_wp2;exact abZ (v:=.bool (gS kind id)) (by simp[results,Tryz.results282,go_sem,gS,b,d]) rfl ⟨rfl,rfl⟩
  ·have d:(id==11)=false:=by simpa using c
   clear a c;go_enter func282,ntmps282;go_wp2;exact abZ (v:=.bool (gS kind id)) (by simp[results,Tryz.results282,go_sem,gS,b,d]) rfl ⟨rfl,rfl⟩
structure Pr where
 id:Int
 n:Nat
 text:abO
 value:abO
def Pr.val(p:Pr):Value:=.agg #[.int .i64 p.id,.int .u32 p.n,.string p.text,.string p.value]
def Pr.Ok(p:Pr):Prop:=p.n<4294967296/\p.text.size<=4611686018427387904/\p.value.size<=4611686018427387904
def zK(r:Rule)(p:Pr):Int:=
 if p.text.toList.isEmpty=false\/p.value.toList.isEmpty=false then 2 else if p.n<r.least\/r.most<p.n then 9 else 0
def de(r:Rule)(kind:Int)(p:Pr):Int:=
 if ng r kind=false then 9
 else if r.shape<=4 then zK r p
 else if p.n≠0\/(p.value.toList.isEmpty=false/\r.shape≠7)then 2
 else if r.shape=6 then(if 65535<p.text.size then 2 else 0)
 else if YF p.text=false\/YF p.value=false then 6
 else if p.id=8/\fp p.text=false then 9
 else 0
theorem pb(r:Rule)(p:Pr)(w:abP):
  abR 281 #[r.val,p.val] w (.int .i64 (zK r p)):=by
 obtain⟨o,m,le,g⟩:=r;obtain⟨l,n,t,v⟩:=p;obtain⟨E,a⟩:∃E,zK ⟨o,m,le,g⟩ ⟨l,n,t,v⟩=E:=⟨_,rfl⟩;have c:=aa a;simp only[Rule.val,Pr.val,a];simp only[zK]at a;cases h:t.toList.isEmpty
 focus
  have d:Hid (E=2):=aa (by rw[<-a,if_pos (.inl h)]);clear a c;go_enter func281,ntmps281
 rotate_left
 focus
  cases i:v.toList.isEmpty
  focus
   have d:Hid (E=2):=aa (by rw[<-a,if_pos (.inr i)]);clear a c;go_enter func281,ntmps281
  rotate_left
  focus
   rw[Fl (by simp[h,i])]at a;by_cases b:n<le
   focus
    have j:decide (n<le)=true:=au b;have d:Hid (E=9):=aa (by rw[<-a,if_pos (.inl b)]);clear a c b;go_enter func281,ntmps281
   rotate_left
   focus
    have j:decide (n<le)=false:=ah b;by_cases f:g<n
    focus
     have k:decide (g<n)=true:=au f;have d:Hid (E=9):=aa (by rw[<-a,if_pos (.inr f)]);clear a c b f;go_enter func281,ntmps281
    rotate_left
    focus
     have k:decide (g<n)=false:=ah f;have d:Hid (E=0):=aa (by rw[<-a,Fl (by omega)]);clear a c b f;go_enter func281,ntmps281
    rotate_left
   rotate_left 2
  rotate_left 3
 rotate_left 4
 all_goals
  go_wp2;go_ret;exact⟨by rw[d.o];rfl,((aq _ _).alloc (ac _) _).alloc (by simp) _⟩
theorem sw(r:Rule)(hr:oo r)(kind:Int)(p:Pr)(hp:p.Ok)(w:abP):
  abR 220 #[r.val,.int .i64 kind,p.val] w (.int .i64 (de r kind p)):=by
 obtain⟨i,R,le,S⟩:=r;obtain⟨q,n,t,v⟩:=p;have HR:=aa hr;clear hr
 obtain⟨E,hE⟩:∃E,de ⟨i,R,le,S⟩ kind ⟨q,n,t,v⟩=E:=⟨_,rfl⟩;have k:=aa hE;have W:Hid (t.size<=4611686018427387904/\v.size<=4611686018427387904):=aa hp.2;simp only[Rule.val,Pr.val,hE];clear hE hp;have a:=aa ((Bk.fresh w 198 #[.int .i64 i,.int .i64 R,.int .u32 le,.int .u32 S]).alloc (.cells #[.int .i64 q,.int .u32 n,.string t,.string v] 71));have b:Hid (Bk ((w.alloc (.cells #[.int .i64 i,.int .i64 R,.int .u32 le,.int .u32 S] 198)).alloc (.cells #[.int .i64 q,.int .u32 n,.string t,.string v] 71)) (w.heap.size+1) 71 #[.int .i64 q,.int .u32 n,.string t,.string v]):=
  aa (by simpa using Bk.fresh (w.alloc (.cells #[.int .i64 i,.int .i64 R,.int .u32 le,.int .u32 S] 198)) 71 #[.int .i64 q,.int .u32 n,.string t,.string v])
 have g:=aa (((aq w.heap.size w).alloc (ac _) (.cells #[.int .i64 i,.int .i64 R,.int .u32 le,.int .u32 S] 198)).alloc (by simp) (.cells #[.int .i64 q,.int .u32 n,.string t,.string v] 71));go_enter func220,ntmps220;go_wp2_with fail;refine Yg (vr ⟨i,R,le,S⟩ HR.o kind _) λX f=>?_;have c:=a.o.below f a.o.lt;have d:=b.o.below f b.o.lt;have h:=Yf g.o f;clear a b g f;obtain⟨⟨D,F,G,H⟩,s,f1,u,x⟩:=c.four;obtain⟨⟨I,J,K,L⟩,y,z,A,B⟩:=d.four;have a:=aa c;have b:=aa d;have g:=aa h
 clear c d h s f1 u x y z A B;cases l:ng ⟨i,R,le,S⟩ kind
 focus
  have j:Hid (E=9):=aa (by rw[<-k.o];unfold de;rw[l];simp[])
 rotate_left
 focus
  by_cases Q:i<=4
  ·have s4:decide ((i:Int)<=4)=true:=au (by omega);have j:Hid (E=zK ⟨i,R,le,S⟩ ⟨q,n,t,v⟩):=aa (by rw[<-k.o];unfold de;rw[l];simp[Q]);clear Q;go_wp2_with fail;refine Yg (pb ⟨i,R,le,S⟩ ⟨q,n,t,v⟩ _) λw2 f=>?_;rw[<-j.o];have g:=aa (Yf g.o f);clear f
   go_wp2;go_ret;exact⟨rfl,g.o⟩
  focus
   have s4:decide ((i:Int)<=4)=false:=ah (by omega);by_cases m:n=0
   focus
    have sn:((n:Int) !=0)=false:=by subst m;rfl
    cases C:v.toList.isEmpty
    focus
     by_cases V:i=7
     focus
      have s7:((i:Int) !=7)=false:=by subst V;rfl
      have T:¬i=6:=by omega
      have s6:((i:Int)==6)=false:=ar.2 (by omega);go_wp2_with fail;refine(fk t _ W.o.1).mono ?_;clear D F G H I J K L;rintro e X ⟨rfl,f⟩;have c:=a.o.below f a.o.lt;have d:=b.o.below f b.o.lt;have h:=Yf g.o f;clear a b g f;obtain⟨⟨D,F,G,H⟩,s,f1,u,x⟩:=c.four;obtain⟨⟨I,J,K,L⟩,y,z,A,B⟩:=d.four;have a:=aa c;have b:=aa d;have g:=aa h
      clear c d h s f1 u x y z A B;cases O:YF t
      focus
       have j:Hid (E=6):=aa (by rw[<-k.o];unfold de;rw[l];simp[m,C,O,V])
      rotate_left
      focus
       have o:=aa O;clear O
       go_wp2_with fail;refine(fk v _ W.o.2).mono ?_;clear D F G H I J K L;rintro e X ⟨rfl,f⟩;have c:=a.o.below f a.o.lt;have d:=b.o.below f b.o.lt;have h:=Yf g.o f;clear a b g f;obtain⟨⟨D,F,G,H⟩,s,f1,u,x⟩:=c.four;obtain⟨⟨I,J,K,L⟩,y,z,A,B⟩:=d.four;have a:=aa c;have b:=aa d;have g:=aa h
       clear c d h s f1 u x y z A B;cases P:YF v
       focus
        have j:Hid (E=6):=aa (by rw[<-k.o];unfold de;rw[l];simp[m,C,o.o,P,V])
       rotate_left
       focus
        have M:=aa P;clear P
        by_cases N:q=8
        focus
         have s8:(q==8)=true:=aK.2 N;have Y:=aa N;clear N
         go_wp2_with fail;refine(lw t _ W.o.1).mono ?_;clear D F G H I J K L;rintro e X ⟨rfl,f⟩;have c:=a.o.below f a.o.lt;have d:=b.o.below f b.o.lt;have h:=Yf g.o f;clear a b g f;obtain⟨⟨D,F,G,H⟩,s,f1,u,x⟩:=c.four;obtain⟨⟨I,J,K,L⟩,y,z,A,B⟩:=d.four;have a:=aa c;have b:=aa d;have g:=aa h
         clear c d h s f1 u x y z A B;cases U:fp t
         focus
          have j:Hid (E=9):=aa (by rw[<-k.o];unfold de;rw[l];simp[m,C,o.o,M.o,Y.o,U,V])
         rotate_left
         focus
          have j:Hid (E=0):=aa (by rw[<-k.o];unfold de;rw[l];simp[m,C,o.o,M.o,Y.o,U,V])
         rotate_left
        rotate_left 2
        focus
         have s8:(q==8)=false:=ar.2 N;have j:Hid (E=0):=aa (by rw[<-k.o];unfold de;rw[l];simp[m,C,o.o,M.o,N,V])
        rotate_left
       rotate_left 3
      rotate_left 4
     rotate_left 5
     focus
      have s7:((i:Int) !=7)=true:=aA.2 (by omega);have j:Hid (E=2):=aa (by rw[<-k.o];unfold de;rw[l];simp[Q,m,C,V])
     rotate_left
    rotate_left 6
    focus
     by_cases T:i=6
     focus
      have s6:((i:Int)==6)=true:=aK.2 (by omega);by_cases Z:65535<t.size
      focus
       have sb:decide ((65535:Int)<(t.size:Int))=true:=au (by omega);have j:Hid (E=2):=aa (by rw[<-k.o];unfold de;rw[l];simp[m,C,T,Z])
      rotate_left
      focus
       have sb:decide ((65535:Int)<(t.size:Int))=false:=ah (by omega);have j:Hid (E=0):=aa (by rw[<-k.o];unfold de;rw[l];simp[m,C,T,Z])
      rotate_left
     rotate_left 2
     focus
      have s6:((i:Int)==6)=false:=ar.2 (by omega);go_wp2_with fail;refine(fk t _ W.o.1).mono ?_;clear D F G H I J K L;rintro e X ⟨rfl,f⟩;have c:=a.o.below f a.o.lt;have d:=b.o.below f b.o.lt;have h:=Yf g.o f;clear a b g f;obtain⟨⟨D,F,G,H⟩,s,f1,u,x⟩:=c.four;obtain⟨⟨I,J,K,L⟩,y,z,A,B⟩:=d.four;have a:=aa c;have b:=aa d;have g:=aa h
      clear c d h s f1 u x y z A B;cases O:YF t
      focus
       have j:Hid (E=6):=aa (by rw[<-k.o];unfold de;rw[l];simp[Q,m,C,T,O])
      rotate_left
      focus
       have o:=aa O;clear O
       go_wp2_with fail;refine(fk v _ W.o.2).mono ?_;clear D F G H I J K L;rintro e X ⟨rfl,f⟩;have c:=a.o.below f a.o.lt;have d:=b.o.below f b.o.lt;have h:=Yf g.o f;clear a b g f;obtain⟨⟨D,F,G,H⟩,s,f1,u,x⟩:=c.four;obtain⟨⟨I,J,K,L⟩,y,z,A,B⟩:=d.four;have a:=aa c;have b:=aa d;have g:=aa h
       clear c d h s f1 u x y z A B;cases P:YF v
       focus
        have j:Hid (E=6):=aa (by rw[<-k.o];unfold de;rw[l];simp[Q,m,C,T,o.o,P])
       rotate_left
       focus
        have M:=aa P;clear P
        by_cases N:q=8
        focus
         have s8:(q==8)=true:=aK.2 N;have Y:=aa N;clear N
         go_wp2_with fail;refine(lw t _ W.o.1).mono ?_;clear D F G H I J K L;rintro e X ⟨rfl,f⟩;have c:=a.o.below f a.o.lt;have d:=b.o.below f b.o.lt;have h:=Yf g.o f;clear a b g f;obtain⟨⟨D,F,G,H⟩,s,f1,u,x⟩:=c.four;obtain⟨⟨I,J,K,L⟩,y,z,A,B⟩:=d.four;have a:=aa c;have b:=aa d;have g:=aa h
         clear c d h s f1 u x y z A B;cases U:fp t
         focus
          have j:Hid (E=9):=aa (by rw[<-k.o];unfold de;rw[l];simp[Q,m,C,T,o.o,M.o,Y.o,U])
         rotate_left
         focus
          have j:Hid (E=0):=aa (by rw[<-k.o];unfold de;rw[l];simp[Q,m,C,T,o.o,M.o,Y.o,U])
         rotate_left
        rotate_left 2
        focus
         have s8:(q==8)=false:=ar.2 N;have j:Hid (E=0):=aa (by rw[<-k.o];unfold de;rw[l];simp[Q,m,C,T,o.o,M.o,N])
        rotate_left
       rotate_left 3
      rotate_left 4
     rotate_left 5
    rotate_left 7
   rotate_left 13
   focus
    have sn:((n:Int) !=0)=true:=aA.2 (by omega);have j:Hid (E=2):=aa (by rw[<-k.o];unfold de;rw[l];simp[Q,m])
   rotate_left
  rotate_left 14
 rotate_left 14
 all_goals
  go_wp2;go_ret;exact⟨by rw[j.o];rfl,g.o⟩
section
attribute [local go_sem ↓] Go.wp_at_zero Go.wp_at_succ
abbrev ST:TypeId:=196
def fL(f:Nat->Nat):Array Value:=(Array.range 64).map λi=>.int .i64 (f i)
def upd(f:Nat->Nat)(k v:Nat):Nat->Nat:=λi=>if i=k then v else f i
theorem mW(f:Nat->Nat)(k:Nat)(h:k<64):(fL f)[k]? =some (.int .i64 (f k)):=by simp[fL,h]
theorem zh(f:Nat->Nat)(k v:Nat):(fL f).setIfInBounds k (.int .i64 v)=fL (upd f k v):=by
 apply Array.ext
 ·simp[fL]
 ·intro i a b;simp only[fL,upd];by_cases h:k=i
  ·subst h;simp
  ·rw[Array.getElem_setIfInBounds_ne (by simp[fL]at a;simpa using a) h];simp[Ne.symm h]
def iC(f:Nat->Nat)(kind:Int)(k:Nat):Bool:=decide (1<f k+1)&& !gS kind k
theorem sB(g:Nat)(f:Nat->Nat)(kind:Int)(k:Nat)(hk:k<64)(hf:f k<1000000)(w:abP)(h:Bk w g ST (fL f)):
  Calls prog 221 #[.pointer (some ⟨g,0,none⟩),.int .i64 kind,.int .i64 k] w λe w'=>
   e= .returned (.bool (iC f kind k))/\Bk w' g ST (fL (upd f k (f k+1)))/\w.grownBy w' (some g):=by
 have z:(0:Int)<=(k:Int):=Int.natCast_nonneg _;have u:(k:Int)<64:=by omega
 have A:IntKind.i64.wrap ((f k:Int)+1)=((f k+1:Nat):Int):=by rw[aQ];omega
 have s:w.cell? ⟨g,k,none⟩=some (.int .i64 (f k)):=by rw[h.cell,mW _ _ hk]
 have n:=h.free k;have H:=aa h;have c:Hid (iC f kind k=(decide (1<f k+1)&& !gS kind k)):=aa rfl;have l:=aa (zh f k (f k+1));generalize t:f k=v at*;obtain⟨o,d⟩:∃o,gS kind k=o:=⟨_,rfl⟩;rw[d]at c;have q:=aa d;clear d
 clear h hk hf t;go_enter func221,ntmps221;go_wp2_with fail;go_region;have i:Bk (w.setCell ⟨g,k,none⟩ (.int .i64 ((v:Int)+1))).drew g ST (fL (upd f k (v+1))):=(H.o.upd k _ l.o).drewN 1;have p:w.grownBy (w.setCell ⟨g,k,none⟩ (.int .i64 ((v:Int)+1))).drew (some g):=nW (YR w g k _) 1;have x:(w.setCell ⟨g,k,none⟩ (.int .i64 ((v:Int)+1))).drew.cell? ⟨g,k,none⟩=some (.int .i64 ((v:Int)+1)):=by
  rw[i.cell,mW _ _ (by omega)];simp[upd]
 have m:=aa i;have j:=aa p
 clear i p s n l H;generalize (w.setCell ⟨g,k,none⟩ (.int .i64 ((v:Int)+1))).drew=w1 at*;by_cases a:v=0
 ·have r:decide ((1:Int)<(v:Int)+1)=false:=ah (by omega);have b:Hid (iC f kind k=false):=aa (by rw[c.o,a];rfl);clear a;go_wp2;go_ret;exact⟨by rw[b.o];rfl,m.o,j.o⟩
 ·have r:decide ((1:Int)<(v:Int)+1)=true:=au (by omega);have y:(0:Int)<(v:Int):=by omega
  have b:Hid (iC f kind k= !o):=aa (by rw[c.o,au (by omega)];rfl);clear a;go_wp2_with fail;refine(zJ kind k _).mono ?_;rintro e B ⟨rfl,rfl⟩;rw[q.o];go_wp2;go_ret;exact⟨by rw[b.o];rfl,m.o,j.o⟩
theorem u6(g:Nat)(f:Nat->Nat)(w:abP)(h:Bk w g ST (fL f)):
  Calls prog 223 #[.pointer (some ⟨g,0,none⟩)] w λe w'=>e= .returned (.bool (decide (0<f 22)&&(f 21==0)))/\w'=w:=by
 have i:w.cell? ⟨g,22,none⟩=some (.int .i64 (f 22)):=by rw[h.cell,mW _ _ (by omega)]
 have j:w.cell? ⟨g,21,none⟩=some (.int .i64 (f 21)):=by rw[h.cell,mW _ _ (by omega)]
 clear h;generalize f 22=a at*;generalize f 21=b at*;by_cases c:0<a
 ·have k:decide ((0:Int)<(a:Int))=true:=au (by omega);have l:decide (0<a)=true:=au (by omega);have d:=aa c;clear c;go_enter func223,ntmps223;go_wp2;go_ret;exact⟨by simp[d.o];rw[eG];simp,rfl⟩
 ·obtain rfl:a=0:=by omega
  go_enter func223,ntmps223;go_wp2;go_ret;exact⟨rfl,rfl⟩
theorem eN(s:abO):(cQ s).size=s.size+2:=by
 unfold cQ;rw[cK];have:((⟨(Yk s.size 2).toArray⟩:abO)).size=2:=by
  show(Yk s.size 2).toArray.size=2;simp[fM]
 omega
def YX(sh:Nat)(p:Pr):abO:=
 if sh=1\/sh=2 then⟨(Yk p.n sh).toArray⟩
 else if sh=3 then⟨(Yk p.n 4).toArray⟩
 else if sh=4 then⟨(eP p.n).toArray⟩
 else if sh=7 then cQ p.text++cQ p.value
 else cQ p.text
theorem yX(sh:Nat)(p:Pr)(h1:1<=sh)(h7:sh<=7)(hn:p.n<4294967296)(h4:sh=4->p.n<=268435455)(ht:5<=sh->p.text.size<=65535)(hv:5<=sh->p.value.size<=65535)(w:abP):
  abR 222 #[.int .i64 sh,p.val] w (.string (YX sh p)):=by
 obtain⟨g,n,t,v⟩:=p;simp only[Pr.val];have d:Hid (n<4294967296):=aa hn;have H:=aa (And.intro hn (And.intro h4 (And.intro ht hv)));clear hn h4 ht hv;have A:IntKind.u64.wrap (n:Int)=n:=by rw[iZ];have:=d.o;omega
 have z:IntKind.i64.wrap (n:Int)=n:=by rw[aQ];have:=d.o;omega
 have a:=aa ((aq w.heap.size w).alloc (ac _) (.cells #[.int .i64 g,.int .u32 n,.string t,.string v] 71));have i:=aa (Bk.fresh w 71 #[.int .i64 g,.int .u32 n,.string t,.string v]);obtain rfl| rfl| rfl| rfl| f:sh=1\/sh=2\/sh=3\/sh=4\/5<=sh:=by omega
 focus
  go_enter func222,ntmps222;go_wp2_with fail;refine(pD n 1 _ (by have:=d.o;omega) (by omega) (by omega)).mono ?_
 rotate_left
 focus
  go_enter func222,ntmps222;go_wp2_with fail;refine(pD n 2 _ (by have:=d.o;omega) (by omega) (by omega)).mono ?_
 rotate_left
 focus
  go_enter func222,ntmps222;go_wp2_with fail;refine(pD n 4 _ (by have:=d.o;omega) (by omega) (by omega)).mono ?_
 rotate_left
 focus
  go_enter func222,ntmps222;go_wp2_with fail;refine(mP n _ (by simpa using H.o.2.1)).mono ?_
 rotate_left
 ·have B:((sh:Int)==1)=false:=ar.2 (by omega);have C:((sh:Int)==2)=false:=ar.2 (by omega);have D:((sh:Int)==3)=false:=ar.2 (by omega);have E:((sh:Int)==4)=false:=ar.2 (by omega);have T:Hid (t.size<=65535):=aa (H.o.2.2.1 f);have V:Hid (v.size<=65535):=aa (H.o.2.2.2 f);by_cases c:sh=7
  ·have y:((sh:Int) !=7)=false:=by subst c;rfl
   have h:Hid (YX sh ⟨g,n,t,v⟩=cQ t++cQ v):=aa (by subst c;rfl);clear f h1 h7 c;go_enter func222,ntmps222;go_wp2_with fail;refine Yg (mN t _ (by have:=T.o;omega)) λj b=>?_;rw[if_pos T.o,if_pos T.o];obtain⟨⟨k,l,m,o⟩,q,r,s,u⟩:=(i.o.below b i.o.lt).four;have a:=aa (Yf a.o b);clear b q r s u k l m
   go_wp2_with fail;refine Yg (mN v _ (by have:=V.o;omega)) λF b=>?_;rw[if_pos V.o,if_pos V.o];have a:=aa (Yf a.o b);clear b o
   have x:¬(9223372036854775807<(cQ t).size+(cQ v).size):=by have:=T.o;have:=V.o;rw[eN,eN];omega
   go_wp2;go_ret;exact⟨by rw[h.o];rfl,a.o⟩
  ·have y:((sh:Int) !=7)=true:=aA.2 (by omega);have h:Hid (YX sh ⟨g,n,t,v⟩=cQ t):=aa (by
    unfold YX;rw[Fl (by omega),Fl (by omega),Fl (by omega),Fl c])
   clear f h1 h7 c;go_enter func222,ntmps222;go_wp2_with fail;refine Yg (mN t _ (by have:=T.o;omega)) λj b=>?_;rw[if_pos T.o,if_pos T.o];have a:=aa (Yf a.o b);clear b
   go_wp2;go_ret;exact⟨by rw[h.o];rfl,a.o⟩
 all_goals
  rintro e j ⟨rfl,b⟩;have a:=aa (Yf a.o b);clear b
  go_wp2;go_ret;exact⟨rfl,a.o⟩
def prC(p:Pr):List Value:=[.int .i64 p.id,.int .u32 p.n,.string p.text,.string p.value]
def prs(l:List Pr):List Value:=l.flatMap prC
theorem yt(l:List Pr):(prs l).length=l.length*4:=by
 induction l with
 | nil=>rfl
 | cons p l ih=>simp only[prs,YS,List.length_append,bM];rw[show(List.flatMap prC l).length=l.length*4 from ih];simp[prC];omega
theorem qd:∀(l:List Pr) (i j:Nat) (h:i<l.length),j<4->(prs l)[i*4+j]? =(prC l[i])[j]?
 | p :: l,0,j,_,hj=>by
   simp only[prs,YS,List.getElem_cons_zero];rw[jU,bV,jd (by simp[prC];omega)]
 | p :: l,i+1,j,h,hj=>by
   have h':i<l.length:=by simpa using h
   have a:=qd l i j h' hj;simp only[prs,YS,List.getElem_cons_succ];rw[iM (by simp[prC];omega)];rw[<-a]
   congr 1
   simp[prC];omega
theorem Rd.atP{B:Nat}{A:Option Addr}{l:List Pr}(h:Rd w B 4 A l.length (prs l)){i:Nat}(hi:i<l.length):∃b o,A=some ⟨b,o,none⟩/\b<B/\
  w.cell? ⟨b,o+i*4,none⟩=some (.int .i64 l[i].id)/\w.cell? ⟨b,o+i*4+1,none⟩=some (.int .u32 l[i].n)/\w.cell? ⟨b,o+i*4+2,none⟩=some (.string l[i].text)/\w.cell? ⟨b,o+i*4+3,none⟩=some (.string l[i].value):=by
 rcases h.2 with c| ⟨b,o,rfl,d,a⟩
 ·have:=yt l;rw[c]at this;simp at this;omega
 ·refine⟨b,o,rfl,d,?_,?_,?_,?_⟩
  ·exact a (i*4+0) _ (qd l i 0 hi (by omega))
  ·rw[Nat.add_assoc];exact a (i*4+1) _ (qd l i 1 hi (by omega))
  ·rw[Nat.add_assoc];exact a (i*4+2) _ (qd l i 2 hi (by omega))
  ·rw[Nat.add_assoc];exact a (i*4+3) _ (qd l i 3 hi (by omega))
def jI(p:Pr):List UInt8:=UInt8.ofNat p.id.toNat :: ls (YX (gH p.id) p)
def jp(f:Nat->Nat):Bool:=decide (0<f 22)&&(f 21==0)
def eO(kind:Int):List Pr->(Nat->Nat)->List UInt8->List UInt8×Int
 | [],f,out=>if jp f=true then([],9)else(eP out.length++out,0)
 | p :: l,f,out=>
   if de (cr p.id) kind p≠0 then([],de (cr p.id) kind p)
   else if iC f kind p.id.toNat=true then([],9)
   else eO kind l (upd f p.id.toNat (f p.id.toNat+1)) (out++jI p)
def aM(kind:Int)(l:List Pr):List UInt8×Int:=if 1000<l.length then([],4)else eO kind l (λ_=>0) []
def Inv(w0:abP)(r g B0:Nat)(f:Nat->Nat)(w:abP):Prop:=abQ w0 w/\Tab w r/\Bk w g ST (fL f)/\B0<=w.heap.size/\r<B0/\g<B0/\w0.heap.size<=B0
section
variable {w0 w w':abP} {r g B0:Nat} {f:Nat->Nat}
theorem Inv.alloc(h:Inv w0 r g B0 f w)(o:Obj):Inv w0 r g B0 f (w.alloc o):=by
 obtain⟨a,b,c,j,d,e,i⟩:=h;exact⟨a.alloc (by omega) o,b.alloc o,c.alloc o,by simp;omega,d,e,i⟩
theorem Inv.drewN(h:Inv w0 r g B0 f w)(n:Nat):Inv w0 r g B0 f (w.drewN n):=⟨aV h.1 n,h.2.1,h.2.2.1,h.2.2.2⟩
theorem Inv.below(h:Inv w0 r g B0 f w)(hb:abQ w w'):Inv w0 r g B0 f w':=by
 obtain⟨a,b,c,d,e,i,j⟩:=h;exact⟨Yf a hb,b.below hb b.lt,c.below hb c.lt,aC d hb.size,e,i,j⟩
theorem Inv.app(h:Inv w0 r g B0 f w)(hg:w.grownBy w' v.ownBlock)(hv:∀k,v.ownBlock=some k->B0<=k):Inv w0 r g B0 f w':=by
 obtain⟨c,a,b,m,d,i,j⟩:=h;exact⟨c.grown hg (by omega) (λk l=>by have:=hv k l;omega),(hg.block r a.lt (λe=>by have:=hv _ e.symm;omega)).trans a,
  (hg.block g b.lt (λe=>by have:=hv _ e.symm;omega)).trans b,by have:=hg.size;omega,d,i,j⟩
theorem Inv.again{f':Nat->Nat}(h:Inv w0 r g B0 f w)(hm:w.grownBy w' (some g))(hrg:r≠g)(hwg:w0.heap.size<=g)(hs:Bk w' g ST (fL f')):Inv w0 r g B0 f' w':=by
 obtain⟨b,a,l,m,c,d,i⟩:=h;exact⟨b.grown hm (by omega) (λk j=>by cases j;exact hwg),(hm.block r a.lt (λe=>hrg (by cases e;rfl))).trans a,hs,by have:=hm.size;omega,c,d,i⟩
end
section
variable {P:Program} {w:abP}
theorem mS{ops:Array Oper}{a:Act}{K:Act->abP->Prop}{Q:Exit->Act->abP->Prop}{E:Prop}(hgd:o.guard=none)(s x:Operand)(t:TypeId)
  (ho:o.op= .call {callee:=.builtin .append,args:=#[s,x],argTypes:=#[t,t]})
  (base:Nat)(e:TypeId)(z:Value)(size bytes:Nat)(ht:P.underlying t=some (.slice e))(hinfo:(P.info? e).map (λi=>(i.zero,i.size,i.bytes))=some (some z,size,bytes))
  (hzs:z.cells.size=size)(hsz:0<size)(v:Value)(n:Nat)(xs:List Value)(hs:a.eval s=v)(hown:w.ownsRow base e size v n xs)
  (B:Nat)(A:Option Addr)(m c:Nat)(news:List Value)(hx:a.eval x= .slice A m c)(hr:Rd w B size A m news)(h1:∀u∈news,u.oneCell'=true)
  (h63:n+m<=maxLen)(hbytes:(n+m)*bytes<=140737488355328)(hbase:base<=w.heap.size)
  (h:∀v' w',w'.ownsRow base e size v' (n+m) (xs++news)->w.grownBy w' v.ownBlock->(v'.ownBlock=v.ownBlock\/v'.ownBlock=some w.heap.size)->K (a.put o.dst v') w'):
  if Region.wanted o (yielded ops a.tmps)=true then Oper.wp P o a w K Q else E:=by
 have b:Region.wanted o (yielded ops a.tmps)=true:=by simp[Region.wanted,hgd]
 rw[if_pos b];exact vY w s x t ho base e z size bytes ht hinfo hzs hsz v n xs hs hown B A m c news hx hr h1 h63 hbytes hbase h
theorem zb{ops:Array Oper}{a:Act}{K:Act->abP->Prop}{Q:Exit->Act->abP->Prop}{E:Prop}(hgd:o.guard=none)(sl x:Operand)(t u:TypeId)
  (ho:o.op= .call {callee:=.builtin .append,args:=#[sl,x],argTypes:=#[t,u]})
  (base:Nat)(e:TypeId)(ht:P.underlying t=some (.slice e))(hu:P.underlying u=some .string)(hinfo:(P.info? e).map (λi=>(i.zero,i.size,i.bytes))=some (some (.int .u8 0),1,1))
  (v:Value)(n:Nat)(xs:List Value)(hs:a.eval sl=v)(hown:w.ownsRow base e 1 v n xs)(s:abO)(hx:a.eval x= .string s)
  (h63:n+s.size<=maxLen)(hbytes:n+s.size<=140737488355328)(hbase:base<=w.heap.size)
  (h:∀v' w',w'.ownsRow base e 1 v' (n+s.size) (xs++bys (ls s))->w.grownBy w' v.ownBlock->K (a.put o.dst v') w'):
  if Region.wanted o (yielded ops a.tmps)=true then Oper.wp P o a w K Q else E:=by
 have k:Region.wanted o (yielded ops a.tmps)=true:=by simp[Region.wanted,hgd]
 rw[if_pos k];obtain⟨i,g,l,b,c⟩:=o8 hinfo;obtain⟨v',w',j,d,f,m⟩:=Lib.run_append_own_string (P:=P) w base t u o.type e i ht hu g l b c v n xs hown s h63 hbytes hbase;unfold Oper.wp execOp;simp only[ho,resolve,invoke,builtin,Sem.run_bind,Sem.run_pure,ik,kD,fI,gC,hs,hx,j];exact h v' w' d f
end
theorem FE(a b:List UInt8):(⟨a.toArray⟩:abO)++⟨b.toArray⟩=⟨(a++b).toArray⟩:=by
 apply ByteArray.ext;simp[ByteArray.data_append]
theorem mL{s:abO}(h:s.toList.isEmpty=true):s.size=0:=by
 rw[Lib.toList_data]at h;rw[Lib.size_eq];cases b:s.data.toList with
 | nil=>rfl
 | cons a t=>rw[b]at h;simp at h
theorem nr{kind:Int}{p:Pr}(h:de (cr p.id) kind p=0):(0<=p.id/\p.id<64)/\1<=gH p.id/\gH p.id<=7/\(gH p.id=4->p.n<=268435455)/\
  (5<=gH p.id->p.text.size<=65535)/\(5<=gH p.id->p.value.size<=65535):=by
 have a:ng (cr p.id) kind=true:=by
  cases b:ng (cr p.id) kind
  ·unfold de at h;rw[b]at h;simp at h
  ·rfl
 have m:∃q∈dQ,(q.1:Int)=p.id/\cr p.id=q.2:=by
  unfold cr at a⊢;cases c:dQ.find? λq=>(q.1:Int)==p.id with
  | none=>rw[c]at a;simp[ng]at a
  | some q=>exact⟨q,jc c,by simpa using List.find?_some c,rfl⟩
 obtain⟨q,l,s,o⟩:=m;have r:∀q∈dQ,q.1<64/\1<=q.2.shape/\q.2.shape<=7/\(q.2.shape=4->q.2.most<=268435455):=by decide
 obtain⟨t,i,j,k⟩:=r q l;unfold de at h;rw[a]at h;unfold gH;rw[o]at h⊢;simp only[Bool.true_eq_false,if_false]at h;refine⟨by omega,i,j,?_,?_,?_⟩
 ·intro d;rw[if_pos (by omega)]at h;unfold zK at h;split at h
  ·omega
  ·split at h
   ·omega
   ·have:=k d;omega
 ·intro d;rw[Fl (by omega)]at h;split at h
  ·omega
  ·split at h
   ·split at h
    ·omega
    ·omega
   ·split at h
    ·omega
    ·rename_i f;exact gL (by simpa using λe=>f (.inl e))
 ·intro d;rw[Fl (by omega)]at h;split at h
  ·omega
  ·rename_i g;split at h
   ·rename_i u;have:p.value.toList.isEmpty=true:=by
     cases b:p.value.toList.isEmpty
     ·exact absurd (.inr ⟨b,by omega⟩) g
     ·rfl
    rw[mL this];omega
   ·split at h
    ·omega
    ·rename_i f;exact gL (by simpa using λe=>f (.inr e))
theorem zC{kind:Int}{p:Pr}(h:de (cr p.id) kind p=0):(jI p).length<=131075:=by
 obtain⟨-,c,e,d,a,b⟩:=nr h;unfold jI;rw[bM,aN];have:(YX (gH p.id) p).size<=131074:=by
  unfold YX;split
  ·show(Yk p.n (gH p.id)).toArray.size<=_;simp[fM];omega
  ·split
   ·show(Yk p.n 4).toArray.size<=_;simp[fM]
   ·split
    ·show(eP p.n).toArray.size<=_;have:=mO 3 p.n;simp[eP];omega
    ·split
     ·rw[cK,eN,eN];have:=a (by omega);have:=b (by omega);omega
     ·rw[eN];have:=a (by omega);omega
 omega
abbrev SS(q:Nat)(a b c d e:Value)(I:abP->Prop)(x:abP):Prop:=
 x.cell? ⟨q,0,none⟩=some a/\x.cell? ⟨q,1,none⟩=some b/\x.cell? ⟨q,2,none⟩=some c/\x.cell? ⟨q,3,none⟩=some d/\x.cell? ⟨q+1,0,none⟩=some e/\I x
section
variable {q:Nat} {a b c d e:Value} {w0 x y:abP} {r g B0:Nat} {f:Nat->Nat}
theorem SS.lt{I:abP->Prop}(h:SS q a b c d e I x):q+1<x.heap.size:=eY x _ h.2.2.2.2.1
theorem SS.base(h:SS q a b c d e (Inv w0 r g B0 f) x):B0<=x.heap.size:=h.2.2.2.2.2.2.2.2.1
theorem SS.alloc(h:SS q a b c d e (Inv w0 r g B0 f) x)(o:Obj):SS q a b c d e (Inv w0 r g B0 f) (x.alloc o):=by
 have p:=h.lt;obtain⟨i,j,k,l,m,n⟩:=h;exact⟨(fD x o _ (by show q<_;omega)).trans i,(fD x o _ (by show q<_;omega)).trans j,(fD x o _ (by show q<_;omega)).trans k,
  (fD x o _ (by show q<_;omega)).trans l,(fD x o _ (by show q+1<_;omega)).trans m,n.alloc o⟩
theorem SS.below(h:SS q a b c d e (Inv w0 r g B0 f) x)(hb:abQ x y):SS q a b c d e (Inv w0 r g B0 f) y:=by
 have p:=h.lt;have i:=(vM hb).1;obtain⟨j,k,l,m,n,o⟩:=h;exact⟨(i _ _ (by omega)).trans j,(i _ _ (by omega)).trans k,(i _ _ (by omega)).trans l,(i _ _ (by omega)).trans m,(i _ _ (by omega)).trans n,o.below hb⟩
theorem SS.app(h:SS q a b c d e (Inv w0 r g B0 f) x)(hg:x.grownBy y v.ownBlock)(hv:∀k,v.ownBlock=some k->B0<=k/\k≠q/\k≠q+1):SS q a b c d e (Inv w0 r g B0 f) y:=by
 obtain⟨j,l,m,n,o,p⟩:=h;have i:some q≠v.ownBlock:=λe=>(hv _ e.symm).2.1 rfl;have t:some (q+1)≠v.ownBlock:=λe=>(hv _ e.symm).2.2 rfl;exact⟨hg.cell j i,hg.cell l i,hg.cell m i,hg.cell n i,hg.cell o t,p.app hg λk s=>(hv k s).1⟩
theorem acs{k n:Nat}{xs:List Value}{v1:Value}{I:abP->Prop}(h1:y.ownsRow B0 t k v1 n xs)(hat:v1.ownBlock=v.ownBlock\/v1.ownBlock=some x.heap.size)(hS:SS q a b c d e I x)
  (hv:∀k,v.ownBlock=some k->B0<=k/\k≠q/\k≠q+1):∀k,v1.ownBlock=some k->B0<=k/\k≠q/\k≠q+1:=by
 intro m f;have h:=hS.lt;rcases hat with hat| hat
 ·exact hv m (hat▸f)
 ·rw[hat]at f;have g:=(cX h1 m (hat▸f)).1;cases f;exact⟨g,by omega,by omega⟩
end
theorem kJ:fL (λ_=>0)= #[.int .i64 0,.int .i64 0,.int .i64 0,.int .i64 0,.int .i64 0,.int .i64 0,.int .i64 0,.int .i64 0,.int .i64 0,.int .i64 0,.int .i64 0,.int .i64 0,.int .i64 0,.int .i64 0,.int .i64 0,.int .i64 0,.int .i64 0,.int .i64 0,.int .i64 0,.int .i64 0,.int .i64 0,.int .i64 0,.int .i64 0,.int .i64 0,.int .i64 0,.int .i64 0,.int .i64 0,.int .i64 0,.int .i64 0,.int .i64 0,.int .i64 0,.int .i64 0,.int .i64 0,.int .i64 0,.int .i64 0,.int .i64 0,.int .i64 0,.int .i64 0,.int .i64 0,.int .i64 0,.int .i64 0,.int .i64 0,.int .i64 0,.int .i64 0,.int .i64 0,.int .i64 0,.int .i64 0,.int .i64 0,.int .i64 0,.int .i64 0,.int .i64 0,.int .i64 0,.int .i64 0,.int .i64 0,.int .i64 0,.int .i64 0,.int .i64 0,.int .i64 0,.int .i64 0,.int .i64 0,.int .i64 0,.int .i64 0,.int .i64 0,.int .i64 0]:=by kernel_rfl
theorem xA(kind:Int)(l:List Pr)(hok:∀p∈l,p.Ok)(A:Option Addr)(cap:Nat)(w:abP)(h:Rd w w.heap.size 4 A l.length (prs l))(hl:l.length<=4611686018427387904):
  abR 155 #[.int .i64 kind,.slice A l.length cap] w (.tuple #[.string ⟨(aM kind l).1.toArray⟩,.int .i64 (aM kind l).2]):=by
 by_cases J:1000<l.length
 ·have d1:decide ((1000:Int)<(l.length:Int))=true:=au (by omega);have d2:(1000:Int)<(l.length:Int):=by omega
  have HF:Hid (aM kind l=([],4)):=aa (by rw[aM,if_pos J]);clear h hl hok J;go_enter func155,ntmps155;go_wp2;go_ret2;exact⟨by rw[HF.o];rfl,aq _ _⟩
 ·have d1:decide ((1000:Int)<(l.length:Int))=false:=ah (by omega);have HF:Hid (aM kind l=eO kind l (λ_=>0) []):=aa (by rw[aM,Fl J]);have HA:=aa (show l.length<=1000 by omega);have HR:=aa h;have HO:=aa hok
  clear h hl hok J;go_enter func155,ntmps155;go_wp2_with fail;refine(rK _).mono ?_;rintro e d ⟨rfl,hT,hb⟩;have HI:Hid (Inv w w.heap.size d.heap.size (d.heap.size+1) (λ_=>0) (d.alloc (.cells (fL λ_=>0) ST))):=aa
   ⟨hb.alloc hb.size _,hT.alloc _,Bk.fresh _ _ _,by simp,by have:=hT.lt;omega,by omega,by have:=hb.size;omega⟩
  have HT:=aa hT;have HB:=aa hb
  clear hT hb;go_wp2_with fail
  go_loopw [8,21] (λv i wr=>∃(k:Nat) (f:Nat->Nat) (a:List UInt8),k<=l.length/\i= .int .i64 k/\eO kind l (λ_=>0) []=eO kind (l.drop k) f a/\a.length<=k*131075/\(∀i,f i<=k)/\
    Inv w w.heap.size d.heap.size (d.heap.size+1) f wr/\wr.ownsRow (d.heap.size+1) 5 1 v a.length (bys a)) (λ_ i _=>l.length- (intOf i).toNat)
  case atStart=>exact⟨0,λ_=>0,[],by omega,rfl,rfl,by simp,λ_=>ac 0,by have:=HI.o;rw[kJ]at this;exact this,dD _ _ _ _⟩
  case round=>
   obtain⟨k,f,a,hk,rfl,a5,a8,hf,aH,aI⟩:=hrel;have S:=aa a5;have an:=aa a8;have aj:=aa hf;have g:=aa aH;have O:=aa aI
   clear a5 a8 hf aH aI;by_cases Y:k<l.length
   ·obtain⟨b,o,rfl,hb,c0,c1,c2,c3⟩:=(HR.o.below g.o.1).atP Y;have HP:=aa (HO.o l[k] (iY Y));have HD:=aa (bQ Y);obtain⟨p,hp⟩:∃p,l[k]=p:=⟨_,rfl⟩;rw[hp]at c0 c1 c2 c3 HP HD;have am:=aa Y;clear hp;obtain⟨r,n,t,v⟩:=p;have b8:(0:Int)<=(k:Int):=by omega
    have ca:(k:Int)<(l.length:Int):=by omega
    obtain⟨s,K,le,L,ao,a7⟩:=rL r;have bA:=a7 _ _ (g.o.alloc (.cells #[.int .i64 r,.int .u32 n,.string t,.string v] 71)).2.1;have be:=(Bk.fresh wr 71 #[.int .i64 r,.int .u32 n,.string t,.string v]).alloc (.cells #[.int .i64 s,.int .i64 K,.int .u32 le,.int .u32 L] 198);have bf:Bk ((wr.alloc (.cells #[.int .i64 r,.int .u32 n,.string t,.string v] 71)).alloc (.cells #[.int .i64 s,.int .i64 K,.int .u32 le,.int .u32 L] 198)) (wr.heap.size+1) 198 #[.int .i64 s,.int .i64 K,.int .u32 le,.int .u32 L]:=by
     simpa using Bk.fresh (wr.alloc (.cells #[.int .i64 r,.int .u32 n,.string t,.string v] 71)) 198 #[.int .i64 s,.int .i64 K,.int .u32 le,.int .u32 L]
    have T:=aa ((g.o.alloc (.cells #[.int .i64 r,.int .u32 n,.string t,.string v] 71)).alloc (.cells #[.int .i64 s,.int .i64 K,.int .u32 le,.int .u32 L] 198));have V:=aa ((O.o.alloc (.cells #[.int .i64 r,.int .u32 n,.string t,.string v] 71)).alloc (.cells #[.int .i64 s,.int .i64 K,.int .u32 le,.int .u32 L] 198));have av:=aa be;have aw:=aa bf
    have aY:Hid (d.heap.size+1<=wr.heap.size):=aa g.o.2.2.2.1;clear be bf a7;go_wp2_with fail;refine Yg (sw ⟨s,K,le,L⟩ (ao.o▸nL r) kind ⟨r,n,t,v⟩ HP.o _) λw2 M=>?_;have W:=aa (av.o.below M av.o.lt);have ar:=aa (aw.o.below M aw.o.lt);have y:=aa (T.o.below M);have F:=aa (dV V.o M);clear M bA c0 c1 c2 c3 av aw T V g O;obtain⟨E,hE⟩:∃E,de ⟨s,K,le,L⟩ kind ⟨r,n,t,v⟩=E:=⟨_,rfl⟩;rw[hE];have HE:Hid (de (cr r) kind ⟨r,n,t,v⟩=E):=aa (by rw[ao.o];exact hE);clear hE;by_cases B:E=0
    ·have e0:(E !=0)=false:=by subst B;rfl
     obtain⟨⟨aG,I⟩,aJ,aL,aK,aO,aP⟩:=nr (p:=⟨r,n,t,v⟩) (HE.o.trans B);obtain⟨c,hc⟩:∃c:UInt8,(c.toNat:Int)=r:=⟨UInt8.ofNat r.toNat,by simp only at aG I;rw[UInt8.toNat_ofNat'];omega⟩;subst hc;have C:gH (c.toNat:Int)=s:=by rw[gH,ao.o]
     simp only[C]at aJ aL aK aO aP;have HV:=aa (And.intro aJ (And.intro aL (And.intro aK (And.intro aO aP))));have HC:Hid (c.toNat<64):=aa (by simp only at I;omega);have ak:=aa (zC (p:=⟨(c.toNat:Int),n,t,v⟩) (HE.o.trans B));have aX:=aa C;obtain⟨⟨d0,X,d2,d3⟩,g0,g1,g2,g3⟩:=W.o.four;clear aG I aJ aL aK aO aP C g0 g1 g2 g3;have aW:=aa B;clear B
     go_wp2_with fail;refine(sB d.heap.size f kind c.toNat HC.o (by have:=aj.o c.toNat;have:=am.o;have:=HA.o;omega) w2 y.o.2.2.1).mono ?_;rintro e w3 ⟨rfl,bc,N⟩;have a6:d.heap.size≠wr.heap.size:=by have:=aY.o;omega
     have aF:d.heap.size≠wr.heap.size+1:=by have:=aY.o;omega
     have a1:Hid (Bk w3 wr.heap.size 71 #[.int .i64 c.toNat,.int .u32 n,.string t,.string v]):=aa ((N.block _ W.o.lt (by simpa using λe=>a6 e.symm)).trans W.o);have a2:Hid (Bk w3 (wr.heap.size+1) 198 #[.int .i64 s,.int .i64 K,.int .u32 le,.int .u32 L]):=aa ((N.block _ ar.o.lt (by simpa using λe=>aF e.symm)).trans ar.o);have U:=aa (y.o.again N (by have:=HT.o.lt;omega) HB.o.size bc);have j:=aa (F.o.kept N (.inr λe=>by have:=(cX F.o _ e).1;omega));clear N bc W ar y F a6 aF d0 X d2 d3;obtain⟨G,hG⟩:∃G,iC f kind c.toNat=G:=⟨_,rfl⟩;rw[hG];cases G
     ·have HG:=aa hG;clear hG
      obtain⟨⟨d0,X,d2,d3⟩,-⟩:=a1.o.four;obtain⟨⟨r0,r1,r2,r3⟩,-⟩:=a2.o.four;have cb:IntKind.u8.wrap (c.toNat:Int)=(c.toNat:Int):=by have:=UInt8.toNat_lt c;rw[GM];omega
      have a9:u8.ownBlock≠some wr.heap.size:=nS j.o a1.o (by decide);have ba:u8.ownBlock≠some (wr.heap.size+1):=nS j.o a2.o (by decide);have HQ:Hid (∀m,u8.ownBlock=some m->d.heap.size+1<=m/\m≠wr.heap.size/\m≠wr.heap.size+1):=aa λm hm=>
       ⟨(cX j.o m hm).1,λe=>a9 (by rw[hm,e]),λe=>ba (by rw[hm,e])⟩
      have bo:Hid (n<4294967296):=aa HP.o.1;obtain⟨H,aB⟩:∃H,YX s ⟨(c.toNat:Int),n,t,v⟩=H:=⟨_,rfl⟩;have aZ:Hid (H.size<=131074):=aa (by have:=ak.o;unfold jI at this;rw[aX.o,aB,bM,aN]at this;omega);have q:Hid (a.length<=131075000):=aa (by have:=an.o;have:=HA.o;have:=am.o;omega);have a0:=aa aB;clear a9 ba aB r1 r2 r3;go_wp2_with fail
      go_region_held3 (λx=>x.cell? ⟨wr.heap.size,0,none⟩=some (.int .i64 c.toNat)/\x.cell? ⟨wr.heap.size,1,none⟩=some (.int .u32 n)/\x.cell? ⟨wr.heap.size,2,none⟩=some (.string t)/\x.cell? ⟨wr.heap.size,3,none⟩=some (.string v)/\
        x.cell? ⟨wr.heap.size+1,0,none⟩=some (.int .i64 s)/\Inv w w.heap.size d.heap.size (d.heap.size+1) (upd f c.toNat (f c.toNat+1)) x)
       (first| exact⟨d0,X,d2,d3,r0,U.o.drewN 1⟩ | exact SS.app (by assumption) a4 bd| exact SS.app (by assumption) a3 HQ.o| exact SS.below (by assumption) D| exact SS.alloc (by assumption) _)
       (first| (go_at_call 222;refine Yg (yX s ⟨(c.toNat:Int),n,t,v⟩ HV.o.1 HV.o.2.1 bo.o HV.o.2.2.1 HV.o.2.2.2.1 HV.o.2.2.2.2 _) λw4 D=>?_;rw[a0.o])
             | (refine mS (by rfl) _ _ _ (by rfl) (d.heap.size+1) 5 (.int .u8 0) 1 1 underlying139 ku rfl (by decide) u8 _ _ (by rfl)
                 (by first| exact dV ((lV j.o 1).alloc _) D| exact(dV (lV j.o 1) D).alloc _| exact(lV j.o 1).alloc _) _ _ 1 1 (bys [c]) (by rfl)
                 (by first| exact(Rd.lit _ _ _ rfl (ed _) rfl).below D| exact Rd.lit _ _ _ rfl (ed _) rfl) (tG _) (by have:=q.o;unfold maxLen;omega) (by have:=q.o;omega) (SS.base (by assumption)) ?_;intro v1 w5 z a3 aC;have bd:=acs z aC (by assumption) HQ.o)
             | (refine zb (by rfl) _ _ _ _ (by rfl) (d.heap.size+1) 5 underlying139 underlying9 ku v1 _ _ (by rfl)
                 (by first| exact dV z D| exact z) H (by rfl) (by have:=q.o;have:=aZ.o;unfold maxLen;omega) (by have:=q.o;have:=aZ.o;omega) (SS.base (by assumption)) ?_;intro v2 w6 Z a4))
      have hI:SS wr.heap.size (.int .i64 c.toNat) (.int .u32 n) (.string t) (.string v) (.int .i64 s) (Inv w w.heap.size d.heap.size (d.heap.size+1) (upd f c.toNat (f c.toNat+1))) w6:=by assumption
      have R:∃(f':Nat->Nat) (u:List UInt8),eO kind l (λ_=>0) []=eO kind (l.drop (k+1)) f' u/\u.length<=(k+1)*131075/\(∀i,f' i<=k+1)/\
        Inv w w.heap.size d.heap.size (d.heap.size+1) f' w6/\w6.ownsRow (d.heap.size+1) 5 1 v2 u.length (bys u):=by
       have bC:jI ⟨(c.toNat:Int),n,t,v⟩=c :: ls H:=by
        unfold jI;rw[aX.o,a0.o];simp
       refine⟨_,a++jI ⟨(c.toNat:Int),n,t,v⟩,?_,?_,?_,hI.2.2.2.2.2,?_⟩
       ·rw[S.o,HD.o,eO,Fl (by rw[HE.o,aW.o];simp),Fl (by simp[HG.o])];simp
       ·have:=ak.o;have:=an.o
        rw[List.length_append];omega
       ·intro i;have q1:=aj.o c.toNat;have q2:=aj.o i;show(if i=c.toNat then f c.toNat+1 else f i)<=k+1;by_cases hi:i=c.toNat
        ·rw[if_pos hi];omega
        ·rw[Fl hi];omega
       ·rw[bC];have e1:(a++c :: ls H).length=a.length+1+H.size:=by simp[aN];omega
        have e2:bys (a++c :: ls H)=bys a++bys [c]++bys (ls H):=by simp[bys]
        rw[e1,e2];exact Z
      have br:=aa R;have b2:(k:Int)<1000:=by have:=HA.o;have:=am.o;omega
      clear R hI z Z a3 a4 aC bd D d0 X d2 d3 r0;go_wp2;go_roundw
      case rel=>
       obtain⟨f',u,r1,r2,r3,r4,r5⟩:=br.o;exact⟨k+1,f',u,by omega,by go_num,r1,r2,r3,r4,r5⟩
      case measure=>simp[intOf];omega
     ·have Q:Hid (aM kind l=([],9)):=aa (by rw[HF.o,S.o,HD.o,eO,Fl (by rw[HE.o,aW.o];simp),if_pos (by simpa using hG)]);have af:=aa U.o.1;clear hG;go_wp2;go_ret2;exact⟨by rw[Q.o];rfl,af.o⟩
    ·have e0:(E !=0)=true:=aA.2 B;have Q:Hid (aM kind l=([],E)):=aa (by rw[HF.o,S.o,HD.o,eO,if_pos (by rw[HE.o];exact B),HE.o]);have af:=aa y.o.1;go_wp2;go_ret2;exact⟨by rw[Q.o];rfl,af.o⟩
   ·obtain rfl:k=l.length:=by omega
    have aE:eO kind l (λ_=>0) []=if jp f=true then([],9)else(eP a.length++a,0):=by
     rw[S.o,ox];rfl
    have ai:=aa aE;clear aE
    obtain⟨A',c',rfl,b9,bb⟩:=jK O.o;have bq:=aa bb;clear bb
    have q:Hid (a.length<=131075000):=aa (by have:=an.o;have:=HA.o;omega);go_wp2_with fail;refine Yg (u6 d.heap.size f _ g.o.2.2.1) λw2 bD=>?_;subst bD;rw[show(decide (0<f 22)&&f 21==0)=jp f from rfl];cases hL:jp f
    ·have Q:Hid (aM kind l=(eP a.length++a,0)):=aa (by rw[HF.o,ai.o,hL];rfl);clear hL;go_wp2_with fail;refine Yg (mP a.length _ (by have:=q.o;omega)) λw3 aD=>?_;have bG:=ni (P:=prog) 139 9 5 underlying139 underlying5 underlying9 c' (bq.o.below aD);have ag:=aa (Yf g.o.1 aD);have b3:¬(9223372036854775807<(⟨(eP a.length).toArray⟩:abO).size+(⟨a.toArray⟩:abO).size):=by
      have h1:(⟨(eP a.length).toArray⟩:abO).size=(eP a.length).length:=by show(eP a.length).toArray.size=_;simp
      have h2:(⟨a.toArray⟩:abO).size=a.length:=by show a.toArray.size=_;simp
      have:=mO 3 a.length;have:=q.o;rw[h1,h2];unfold eP;omega
     clear aD;go_wp2;go_ret2;exact⟨by rw[Q.o];exact congrArg (λb=>Ending.returned (.tuple #[.string b,.int .i64 0])) (FE _ _),ag.o⟩
    ·have Q:Hid (aM kind l=([],9)):=aa (by rw[HF.o,ai.o,hL];rfl);have ag:=aa g.o.1;clear hL;go_wp2;go_ret2;exact⟨by rw[Q.o];rfl,ag.o⟩
end
theorem vZ(kind:Int)(l:List Pr)(hok:∀p∈l,p.Ok)(A:Option Addr)(cap:Nat)(w:abP)(h:Rd w w.heap.size 4 A l.length (prs l))(hl:l.length<=4611686018427387904):
  abR 210 #[.int .i64 kind,.slice A l.length cap] w (.int .i64 (aM kind l).2):=by
 have H:=aa (xA kind l hok A cap w h hl);clear h hok hl
 go_enter func210,ntmps210;go_wp2_with fail;refine H.o.mono ?_;rintro e b ⟨rfl,a⟩;go_wp2;go_ret;exact⟨rfl,a⟩
theorem abL(w:abP)(cs:Array Value)(t:TypeId)(l:List Pr)(hx:cs.toList=prs l):Rd (w.alloc (.cells cs t)) (w.alloc (.cells cs t)).heap.size 4 (some ⟨w.heap.size,0,none⟩) l.length (prs l):=by
 refine⟨yt l,.inr ⟨w.heap.size,0,rfl,by simp,λj u a=>?_⟩⟩;rw[bV,cell_of_row _ w.heap.size j cs t (0,0) (me w _)];rw[<-hx]at a
 simpa using a
