/- A part of what the laws stand on: MPro. -/
import Derived.Test.YtbdgkkmbnahgiaaGreatDoorMxG0MTop
import Derived.Deep.RegionHeld3
import Derived.Deep.DrawnRows
set_option maxRecDepth 10000
set_option maxHeartbeats 8000000
namespace Go.Proofs.YtbdgkkmbnahgiaaGreatDoor
open Go.RowKit Go.Proofs.Tryz
section
structure Rule where
 shape:Nat
 kinds:Nat
 least:Nat
 most:Nat
def Rule.val(r:Rule):Value:=.agg #[.int .i64 r.shape,.int .i64 r.kinds,.int .u32 r.least,.int .u32 r.most]
def dQ:List (Nat×Rule):=[(1,⟨1,65544,0,1⟩),(2,⟨3,65544,0,4294967295⟩),(3,⟨5,65544,0,0⟩),(8,⟨5,65544,0,0⟩),(9,⟨6,65544,0,0⟩),(11,⟨4,264,1,268435455⟩),(17,⟨3,16390,0,4294967295⟩),(18,⟨5,4,0,0⟩),(19,⟨2,4,0,65535⟩),(21,⟨5,32774,0,0⟩),(22,⟨6,32774,0,0⟩),(23,⟨1,2,0,1⟩),(24,⟨3,65536,0,4294967295⟩),(25,⟨1,2,0,1⟩),(26,⟨5,4,0,0⟩),(28,⟨5,16388,0,0⟩),(31,⟨5,51956,0,0⟩),(33,⟨2,6,1,65535⟩),(34,⟨2,6,0,65535⟩),(35,⟨2,8,1,65535⟩),(36,⟨1,4,0,1⟩),(37,⟨1,4,0,1⟩),(38,⟨7,118782,0,0⟩),(39,⟨3,6,1,4294967295⟩),(40,⟨1,4,0,1⟩),(41,⟨1,4,0,1⟩),(42,⟨1,4,0,1⟩)]
def sq(i:Nat)(p:Nat×Rule):MapEntry:={key:=.int .i64 p.1,val:=p.2.val,born:=i}
def gK:Nat->List (Nat×Rule)->List MapEntry
 | _,[]=>[]
 | i,p :: l=>sq i p :: gK (i+1) l
theorem tv(i:Nat)(l:List (Nat×Rule))(p:Nat×Rule):gK i (l++[p])=gK i l++[sq (i+l.length) p]:=by
 induction l generalizing i with
 | nil=>rfl
 | cons q l ih=>simp[gK,ih,Nat.add_assoc,Nat.add_comm 1]
def kf(w:World)(r n:Nat):Prop:=w.heap[r]? =some (.map (gK 0 (dQ.take n)).toArray n)
def Tab(w:World)(r:Nat):Prop:=kf w r 27
def cr(id:Int):Rule:=((dQ.find? fun p=>(p.1:Int)==id).map (·.2)).getD ⟨0,0,0,0⟩
section
variable {w w':World} {r n:Nat}
theorem kf.lt(h:kf w r n):r<w.heap.size:=(cZ.1 h).1
theorem kf.below{B:Nat}(h:kf w r n)(hb:Below B w w')(hr:r<B):kf w' r n:=(hb.block r hr).trans h
theorem kf.alloc(h:kf w r n)(o:Obj):kf (w.alloc o) r n:=(UC w o r h.lt).trans h
theorem kf.other(h:kf w r n){p:Addr}(hp:r≠p.block)(u:Value):kf (w.setCell p u) r n:=(jz w p u r hp).trans h
theorem kf.drewN(h:kf w r n)(k:Nat):kf (w.drewN k) r n:=h
end
theorem sk(key:Int):∀(l:List (Nat×Rule)) (i j:Nat),(∀p∈l,(p.1:Int)≠key)->Instr.findNow (.int .i64) (.int .i64 key) (gK i l) j=some none
 | [],_,_,_=>rfl
 | p :: l,i,j,h=>by
   have h0:=h p (.head _);have:(key==(p.1:Int))=false:=by simpa using fun e=>h0 e.symm
   simp[gK,sq,Instr.findNow,Instr.sameNow,this];exact sk key l _ _ (fun q hq=>h q (.tail _ hq))
theorem sj(key:Int):∀(l:List (Nat×Rule)) (i j:Nat),∃o,Instr.findNow (.int .i64) (.int .i64 key) (gK i l) j=some o/\o.map (·.2)=(l.find? fun p=>(p.1:Int)==key).map (·.2.val)
 | [],_,_=>⟨none,rfl,rfl⟩
 | p :: l,i,j=>by
   by_cases h:key=(p.1:Int)
   ·refine⟨some (j,p.2.val),?_,?_⟩
    ·subst h;simp[gK,sq,Instr.findNow,Instr.sameNow]
    ·subst h;simp
   ·have h1:(key==(p.1:Int))=false:=by simpa using h
    have h2:((p.1:Int)==key)=false:=by simpa using fun e=>h e.symm
    obtain⟨o,ho,hm⟩:=sj key l (i+1) (j+1);exact⟨o,by simp[gK,sq,Instr.findNow,Instr.sameNow,h1];exact ho,by simp[List.find?,h2];simpa using hm⟩
theorem xb{P:Program}{w:World}{t k e:TypeId}{r n:Nat}(ht:P.underlying t=some (.map k e))(hk:P.underlying k=some (.int .i64))(h:kf w r n)(p:Nat×Rule)(hp:dQ[n]? =some p)
  (hu:∀q∈dQ.take n,(q.1:Int)≠(p.1:Int)):∃w',(Instr.mapUpdate t (.map (some r)) (.int .i64 p.1) p.2.val).run P w= .ok () w'/\kf w' r (n+1)/\w.grownBy w' (some r):=by
 have hg:=jW (P:=P) h;have hc:=MapKept.run_checkKey (P:=P) (w:=w) (kt:=k) (d:=.int .i64) (k:=.int .i64 p.1) hk rfl false 9999;have hf:=MapKept.run_findKey (P:=P) (w:=w) (kt:=k) (d:=.int .i64) (k:=.int .i64 p.1) (l:=gK 0 (dQ.take n)) (a:=none) hk (sk _ _ _ _ hu);have hs:=fun o=>MapKept.run_setObj_map (P:=P) o h;have hl:n<dQ.length:=(cR.1 hp).1;have ht':(dQ.take (n+1))=dQ.take n++[p]:=by
  rw[List.take_add_one,hp];rfl
 have hln:(dQ.take n).length=n:=by simp;omega
 refine⟨_,by
  unfold Instr.mapUpdate;simp only[Sem.run_bind,run_underlying ht,hg,hc,hf,Result.andThen];exact hs _,?_,?_⟩
 ·unfold kf;rw[ht',tv,hln];simp[h.lt,sq]
 ·exact⟨rfl,rfl,rfl,by simp,fun i _ hi=>by
   have:r≠i:=fun e=>hi (by rw[e]);simp[this]⟩
theorem tO{P:Program}(w:World){ops:Array Oper}{rest:List Oper}{o:Oper}{a:Act}{Q:Exit->Act->World->Prop}
  (hg:o.guard=none)(m x v:Operand)(t:TypeId)(hop:o.op=Op.insert t m x v)(k e:TypeId)(ht:P.underlying t=some (.map k e))(hk:P.underlying k=some (.int .i64))
  (r n:Nat)(hm:a.eval m= .map (some r))(h:kf w r n)(p:Nat×Rule)(hp:dQ[n]? =some p)(hx:a.eval x= .int .i64 p.1)(hv:a.eval v=p.2.val)
  (hu:∀q∈dQ.take n,(q.1:Int)≠(p.1:Int))(hK:∀w',kf w' r (n+1)->w.grownBy w' (some r)->wpList P ops Q rest (a.put o.dst undef) w'):
  wpList P ops Q (o :: rest) a w:=by
 refine lb hg fun K' hK'=>?_;obtain⟨w',hrun,r1,r2⟩:=xb ht hk h p hp hu;unfold Oper.wp;simp[execOp,hop,hm,hx,hv,hrun,Result.andThen];exact hK' _ _ (hK w' r1 r2)
theorem Cp{P:Program}{w:World}{t k e:TypeId}{r:Nat}(ht:P.underlying t=some (.map k e))(hk:P.underlying k=some (.int .i64))(hz:(zeroValue e).run P w= .ok (Rule.val ⟨0,0,0,0⟩) w)(h:Tab w r)(id:Int):
  (Instr.lookup t (.map (some r)) (.int .i64 id) false).run P w= .ok (cr id).val w:=by
 have hg:=jW (P:=P) h;have hc:=fun b=>MapKept.run_checkKey (P:=P) (w:=w) (kt:=k) (d:=.int .i64) (k:=.int .i64 id) hk rfl b 9999;obtain⟨o,ho,hm⟩:=sj id (dQ.take 27) 0 0;have hf:=MapKept.run_findKey (P:=P) (w:=w) (kt:=k) (d:=.int .i64) (k:=.int .i64 id) (l:=gK 0 (dQ.take 27)) (a:=o) hk ho;unfold Instr.lookup;simp only[Sem.run_bind,run_underlying ht,hg,hc,Result.andThen,Sem.run_pure,hf];have e27:dQ.take 27=dQ:=rfl;rw[e27]at hm;unfold cr;cases hq:dQ.find? fun p=>(p.1:Int)==id with
 | none=>
   rw[hq]at hm;cases o with
   | none=>simp[hz]
   | some a=>simp at hm
 | some p=>
   rw[hq]at hm;cases o with
   | none=>simp at hm
   | some a=>simp at hm;simp[hm,Sem.run_pure]
theorem rK(w:World):Calls prog 101 #[] w fun e w'=>e= .returned (.map (some w.heap.size))/\Tab w' w.heap.size/\Below w.heap.size w w':=by
 have hmm:=@run_makeMap prog;have HT:=aa (show kf (w.alloc (.map #[] 0)) w.heap.size 0 from me w _);have HB:=aa ((aq w.heap.size w).alloc (ac _) (.map #[] 0));go_enter func101,ntmps101
 go_wp2_with (refine tO _ rfl _ _ _ 135 rfl 3 140 (by kernel_rfl) (by kernel_rfl) w.heap.size _ rfl HT.o _ rfl rfl rfl (by decide) ?_;intro w1 hT hg;have hb:=HB.o.grown hg (HB.o.size) (fun k hk=>by cases hk;exact ac _);clear HT HB hg;have HT:=aa hT;have HB:=aa hb;clear hT hb)
 exact av (v:=.map (some w.heap.size)) (by simp[results,Tryz.results101,go_sem]) rfl ⟨rfl,HT.o,HB.o⟩
def oo(r:Rule):Prop:=r.shape<=7/\r.kinds<131072/\r.least<4294967296/\r.most<4294967296
instance (r:Rule):Decidable (oo r):=by unfold oo;infer_instance
theorem nL(id:Int):oo (cr id):=by
 unfold cr;cases hq:dQ.find? fun p=>(p.1:Int)==id with
 | none=>exact(by decide)
 | some p=>
   have h:∀p∈dQ,oo p.2:=by decide
   exact h p (jc hq)
theorem AL(W:World):(zeroValue 140).run prog W= .ok (Rule.val ⟨0,0,0,0⟩) W:=by
 obtain⟨i0,hi,hz0,hz1,hz2⟩:=o8 (show(prog.info? 140).map (fun i=>(i.zero,i.size,i.bytes))=some (some (Rule.val ⟨0,0,0,0⟩),4,24) by kernel_rfl);simp[zeroValue,typeInfo,hi,hz0,Result.andThen]
end
def ng(r:Rule)(kind:Int):Bool:=decide (1<=kind)&&(decide (kind<=16)&&r.kinds.testBit kind.toNat)
theorem Du(a k:Nat)(ha:a<131072)(hk:k<=16):(bits BinOp.and IntKind.i64 ((a:Int) / 2^ min (IntKind.u64.wrap (k:Int)).toNat 64) 1==1)=a.testBit k:=by
 have h1:min (IntKind.u64.wrap (k:Int)).toNat 64=k:=by rw[iZ];omega
 rw[h1];have h2:((a:Int) / 2^ k)=((a/ 2^ k:Nat):Int):=by push_cast;rfl
 have h3:a/ 2^ k<=a:=Nat.div_le_self _ _;rw[h2,show(1:Int)=((2^ 1- 1:Nat):Int)from rfl,Ew _ 1 (by omega) (by omega),Nat.testBit_eq_decide_div_mod_eq];generalize a/ 2^ k=x
 by_cases h:x% 2=1
 ·simp[h]
 ·have:x% 2=0:=by omega
  simp[this]
theorem vr(r:Rule)(hr:oo r)(kind:Int)(w:World):
  Calls prog 156 #[r.val,.int .i64 kind] w fun e w'=>e= .returned (.bool (ng r kind))/\Below w.heap.size w w':=by
 obtain⟨sh,ki,le,mo⟩:=r;have HR:=aa hr;clear hr
 simp only[Rule.val]
 by_cases h1:1<=kind
 ·by_cases h16:kind<=16
  ·have d1:decide (1<=kind)=true:=by simpa using h1
   have d2:decide (kind<=16)=true:=by simpa using h16
   obtain⟨k,rfl⟩:∃k:Nat,kind=k:=⟨kind.toNat,by omega⟩;have H:=aa (And.intro h1 h16);clear h1 h16
   go_enter func156,ntmps156;go_wp2;have HB:=HR.o.2.1;exact av (v:=.bool (ki.testBit k)) (by simp[results,Tryz.results156,go_sem];exact Du ki k (by simpa using HB) (by have:=H.o;omega)) rfl ⟨by simp[ng,d1,d2],(aq _ _).alloc (ac _) _⟩
  ·have d1:decide (1<=kind)=true:=by simpa using h1
   have d2:decide (kind<=16)=false:=by simpa using h16
   clear h1 h16;go_enter func156,ntmps156;go_wp2;exact av (v:=.bool false) (by simp[results,Tryz.results156,go_sem]) rfl ⟨by simp[ng,d2],(aq _ _).alloc (ac _) _⟩
 ·have d1:decide (1<=kind)=false:=by simpa using h1
  clear h1;go_enter func156,ntmps156;go_wp2;exact av (v:=.bool false) (by simp[results,Tryz.results156,go_sem]) rfl ⟨by simp[ng,d1],(aq _ _).alloc (ac _) _⟩
theorem rL(id:Int):∃sh ki le mo:Nat,Hid (cr id=⟨sh,ki,le,mo⟩)/\∀(w:World) (r:Nat),Tab w r->
  (Instr.lookup 135 (.map (some r)) (.int .i64 id) false).run prog w= .ok (.agg #[.int .i64 sh,.int .i64 ki,.int .u32 le,.int .u32 mo]) w:=by
 obtain⟨R,hR⟩:∃R,R=cr id:=⟨_,rfl⟩;obtain⟨sh,ki,le,mo⟩:=R;refine⟨sh,ki,le,mo,aa hR.symm,fun w r h=>?_⟩;have:=Cp (P:=prog) (t:=135) (k:=3) (e:=140) (w:=w) (by kernel_rfl) (by kernel_rfl) (AL w) h id;rw[<-hR]at this;exact this
def gH(id:Int):Nat:=(cr id).shape
def Jv(kind id:Int):Bool:=ng (cr id) kind
def gS(kind id:Int):Bool:=id==38 || (id==11&&kind==3)
def Km(kind id:Int):Bool:=gS kind id&&Jv kind id
theorem zJ(kind id:Int)(w:World):
  Calls prog 159 #[.int .i64 kind,.int .i64 id] w fun e w'=>e= .returned (.bool (gS kind id))/\w'=w:=by
 by_cases h1:id=38
 ·have d1:(id==38)=true:=by simpa using h1
  clear h1;go_enter func159,ntmps159;go_wp2;exact av (v:=.bool (gS kind id)) (by simp[results,Tryz.results159,go_sem,gS,d1]) rfl ⟨rfl,rfl⟩
 ·have d1:(id==38)=false:=by simpa using h1
  by_cases h2:id=11
  ·have d2:(id==11)=true:=by simpa using h2
   clear h1 h2;go_enter func159,ntmps159;go_wp2;exact av (v:=.bool (gS kind id)) (by simp[results,Tryz.results159,go_sem,gS,d1,d2]) rfl ⟨rfl,rfl⟩
  ·have d2:(id==11)=false:=by simpa using h2
   clear h1 h2;go_enter func159,ntmps159;go_wp2;exact av (v:=.bool (gS kind id)) (by simp[results,Tryz.results159,go_sem,gS,d1,d2]) rfl ⟨rfl,rfl⟩
structure Pr where
 id:Int
 n:Nat
 text:ByteArray
 value:ByteArray
def Pr.val(p:Pr):Value:=.agg #[.int .i64 p.id,.int .u32 p.n,.string p.text,.string p.value]
def Pr.Ok(p:Pr):Prop:=p.n<4294967296/\p.text.size<=4611686018427387904/\p.value.size<=4611686018427387904
def zK(r:Rule)(p:Pr):Int:=
 if p.text.toList.isEmpty=false\/p.value.toList.isEmpty=false then 2 else if p.n<r.least\/r.most<p.n then 9 else 0
def de(r:Rule)(kind:Int)(p:Pr):Int:=
 if ng r kind=false then 9
 else if r.shape<=4 then zK r p
 else if p.n≠0\/(p.value.toList.isEmpty=false/\r.shape≠7)then 2
 else if r.shape=6 then(if 65535<p.text.size then 2 else 0)
 else if bN p.text=false\/bN p.value=false then 6
 else if p.id=8/\fp p.text=false then 9
 else 0
theorem pb(r:Rule)(p:Pr)(w:World):
  Calls prog 157 #[r.val,p.val] w fun e w'=>e= .returned (.int .i64 (zK r p))/\Below w.heap.size w w':=by
 obtain⟨sh,ki,le,mo⟩:=r;obtain⟨id,n,t,v⟩:=p;obtain⟨E,hE⟩:∃E,zK ⟨sh,ki,le,mo⟩ ⟨id,n,t,v⟩=E:=⟨_,rfl⟩;have HE:=aa hE;simp only[Rule.val,Pr.val,hE];simp only[zK]at hE;cases ht:t.toList.isEmpty
 ·have HF:Hid (E=2):=aa (by rw[<-hE,if_pos (.inl ht)]);clear hE HE;go_enter func157,ntmps157;go_wp2;go_ret;exact⟨by rw[HF.o];rfl,((aq _ _).alloc (ac _) _).alloc (by simp) _⟩
 ·cases hv:v.toList.isEmpty
  ·have HF:Hid (E=2):=aa (by rw[<-hE,if_pos (.inr hv)]);clear hE HE;go_enter func157,ntmps157;go_wp2;go_ret;exact⟨by rw[HF.o];rfl,((aq _ _).alloc (ac _) _).alloc (by simp) _⟩
  ·rw[ae (by simp[ht,hv])]at hE
   by_cases h1:n<le
   ·have d1:decide (n<le)=true:=au h1;have HF:Hid (E=9):=aa (by rw[<-hE,if_pos (.inl h1)]);clear hE HE h1;go_enter func157,ntmps157;go_wp2;go_ret;exact⟨by rw[HF.o];rfl,((aq _ _).alloc (ac _) _).alloc (by simp) _⟩
   ·have d1:decide (n<le)=false:=ah h1
    by_cases h2:mo<n
    ·have d2:decide (mo<n)=true:=au h2;have HF:Hid (E=9):=aa (by rw[<-hE,if_pos (.inr h2)]);clear hE HE h1 h2;go_enter func157,ntmps157;go_wp2;go_ret;exact⟨by rw[HF.o];rfl,((aq _ _).alloc (ac _) _).alloc (by simp) _⟩
    ·have d2:decide (mo<n)=false:=ah h2;have HF:Hid (E=0):=aa (by rw[<-hE,ae (by omega)]);clear hE HE h1 h2;go_enter func157,ntmps157;go_wp2;go_ret;exact⟨by rw[HF.o];rfl,((aq _ _).alloc (ac _) _).alloc (by simp) _⟩
theorem sw(r:Rule)(hr:oo r)(kind:Int)(p:Pr)(hp:p.Ok)(w:World):
  Calls prog 102 #[r.val,.int .i64 kind,p.val] w fun e w'=>e= .returned (.int .i64 (de r kind p))/\Below w.heap.size w w':=by
 obtain⟨sh,ki,le,mo⟩:=r;obtain⟨id,n,t,v⟩:=p;have HR:=aa hr;clear hr
 obtain⟨E,hE⟩:∃E,de ⟨sh,ki,le,mo⟩ kind ⟨id,n,t,v⟩=E:=⟨_,rfl⟩;have HE:=aa hE;have HP:Hid (t.size<=4611686018427387904/\v.size<=4611686018427387904):=aa hp.2;simp only[Rule.val,Pr.val,hE];clear hE hp;have HZ0:=aa ((Bk.fresh w 140 #[.int .i64 sh,.int .i64 ki,.int .u32 le,.int .u32 mo]).alloc (.cells #[.int .i64 id,.int .u32 n,.string t,.string v] 102));have HZ1:Hid (Bk ((w.alloc (.cells #[.int .i64 sh,.int .i64 ki,.int .u32 le,.int .u32 mo] 140)).alloc (.cells #[.int .i64 id,.int .u32 n,.string t,.string v] 102)) (w.heap.size+1) 102 #[.int .i64 id,.int .u32 n,.string t,.string v]):=
  aa (by simpa using Bk.fresh (w.alloc (.cells #[.int .i64 sh,.int .i64 ki,.int .u32 le,.int .u32 mo] 140)) 102 #[.int .i64 id,.int .u32 n,.string t,.string v])
 have HL:=aa (((aq w.heap.size w).alloc (ac _) (.cells #[.int .i64 sh,.int .i64 ki,.int .u32 le,.int .u32 mo] 140)).alloc (by simp) (.cells #[.int .i64 id,.int .u32 n,.string t,.string v] 102));go_enter func102,ntmps102
 go_wp2_with fail
 refine(vr ⟨sh,ki,le,mo⟩ HR.o kind _).mono ?_;rintro e w1 ⟨rfl,hb⟩;have hz0:=HZ0.o.below hb HZ0.o.lt;have hz1:=HZ1.o.below hb HZ1.o.lt;have hl:=HL.o.trans (hb.mono HL.o.size);clear HZ0 HZ1 HL hb;obtain⟨⟨c0,c1,c2,c3⟩,f0,f1,f2,f3⟩:=hz0.four;obtain⟨⟨d0,d1,d2,d3⟩,g0,g1,g2,g3⟩:=hz1.four;have HZ0:=aa hz0;have HZ1:=aa hz1;have HL:=aa hl
 clear hz0 hz1 hl f0 f1 f2 f3 g0 g1 g2 g3;cases h1:ng ⟨sh,ki,le,mo⟩ kind
 ·have HF:Hid (E=9):=aa (by rw[<-HE.o];unfold de;rw[h1];simp[]);go_wp2;go_ret;exact⟨by rw[HF.o];rfl,HL.o⟩
 ·by_cases h4:sh<=4
  ·have s4:decide ((sh:Int)<=4)=true:=au (by omega);have HF:Hid (E=zK ⟨sh,ki,le,mo⟩ ⟨id,n,t,v⟩):=aa (by rw[<-HE.o];unfold de;rw[h1];simp[h4]);clear h4
   go_wp2_with fail
   refine(pb ⟨sh,ki,le,mo⟩ ⟨id,n,t,v⟩ _).mono ?_;rintro e w2 ⟨rfl,hb⟩;rw[<-HF.o];have HL:=aa (HL.o.trans (hb.mono HL.o.size));clear hb
   go_wp2;go_ret;exact⟨rfl,HL.o⟩
  ·have s4:decide ((sh:Int)<=4)=false:=ah (by omega)
   by_cases hn:n=0
   ·have sn:((n:Int) !=0)=false:=by subst hn;rfl
    cases hv:v.toList.isEmpty
    ·by_cases h7:sh=7
     ·have s7:((sh:Int) !=7)=false:=by subst h7;rfl
      have h6:¬sh=6:=by omega
      have s6:((sh:Int)==6)=false:=ar.2 (by omega)
      go_wp2_with fail
      refine(fk t _ HP.o.1).mono ?_;clear c0 c1 c2 c3 d0 d1 d2 d3;rintro e w1 ⟨rfl,hb⟩;have hz0:=HZ0.o.below hb HZ0.o.lt;have hz1:=HZ1.o.below hb HZ1.o.lt;have hl:=HL.o.trans (hb.mono HL.o.size);clear HZ0 HZ1 HL hb;obtain⟨⟨c0,c1,c2,c3⟩,f0,f1,f2,f3⟩:=hz0.four;obtain⟨⟨d0,d1,d2,d3⟩,g0,g1,g2,g3⟩:=hz1.four;have HZ0:=aa hz0;have HZ1:=aa hz1;have HL:=aa hl
      clear hz0 hz1 hl f0 f1 f2 f3 g0 g1 g2 g3;cases hvt:bN t
      ·have HF:Hid (E=6):=aa (by rw[<-HE.o];unfold de;rw[h1];simp[hn,hv,hvt,h7]);go_wp2;go_ret;exact⟨by rw[HF.o];rfl,HL.o⟩
      ·have HVT:=aa hvt;clear hvt
       go_wp2_with fail
       refine(fk v _ HP.o.2).mono ?_;clear c0 c1 c2 c3 d0 d1 d2 d3;rintro e w1 ⟨rfl,hb⟩;have hz0:=HZ0.o.below hb HZ0.o.lt;have hz1:=HZ1.o.below hb HZ1.o.lt;have hl:=HL.o.trans (hb.mono HL.o.size);clear HZ0 HZ1 HL hb;obtain⟨⟨c0,c1,c2,c3⟩,f0,f1,f2,f3⟩:=hz0.four;obtain⟨⟨d0,d1,d2,d3⟩,g0,g1,g2,g3⟩:=hz1.four;have HZ0:=aa hz0;have HZ1:=aa hz1;have HL:=aa hl
       clear hz0 hz1 hl f0 f1 f2 f3 g0 g1 g2 g3;cases hvv:bN v
       ·have HF:Hid (E=6):=aa (by rw[<-HE.o];unfold de;rw[h1];simp[hn,hv,HVT.o,hvv,h7]);go_wp2;go_ret;exact⟨by rw[HF.o];rfl,HL.o⟩
       ·have HVV:=aa hvv;clear hvv
        by_cases h8:id=8
        ·have s8:(id==8)=true:=aK.2 h8;have H8:=aa h8;clear h8
         go_wp2_with fail
         refine(lw t _ HP.o.1).mono ?_;clear c0 c1 c2 c3 d0 d1 d2 d3;rintro e w1 ⟨rfl,hb⟩;have hz0:=HZ0.o.below hb HZ0.o.lt;have hz1:=HZ1.o.below hb HZ1.o.lt;have hl:=HL.o.trans (hb.mono HL.o.size);clear HZ0 HZ1 HL hb;obtain⟨⟨c0,c1,c2,c3⟩,f0,f1,f2,f3⟩:=hz0.four;obtain⟨⟨d0,d1,d2,d3⟩,g0,g1,g2,g3⟩:=hz1.four;have HZ0:=aa hz0;have HZ1:=aa hz1;have HL:=aa hl
         clear hz0 hz1 hl f0 f1 f2 f3 g0 g1 g2 g3;cases hnm:fp t
         ·have HF:Hid (E=9):=aa (by rw[<-HE.o];unfold de;rw[h1];simp[hn,hv,HVT.o,HVV.o,H8.o,hnm,h7]);go_wp2;go_ret;exact⟨by rw[HF.o];rfl,HL.o⟩
         ·have HF:Hid (E=0):=aa (by rw[<-HE.o];unfold de;rw[h1];simp[hn,hv,HVT.o,HVV.o,H8.o,hnm,h7]);go_wp2;go_ret;exact⟨by rw[HF.o];rfl,HL.o⟩
        ·have s8:(id==8)=false:=ar.2 h8;have HF:Hid (E=0):=aa (by rw[<-HE.o];unfold de;rw[h1];simp[hn,hv,HVT.o,HVV.o,h8,h7]);go_wp2;go_ret;exact⟨by rw[HF.o];rfl,HL.o⟩
     ·have s7:((sh:Int) !=7)=true:=aA.2 (by omega);have HF:Hid (E=2):=aa (by rw[<-HE.o];unfold de;rw[h1];simp[h4,hn,hv,h7]);go_wp2;go_ret;exact⟨by rw[HF.o];rfl,HL.o⟩
    ·by_cases h6:sh=6
     ·have s6:((sh:Int)==6)=true:=aK.2 (by omega)
      by_cases hbig:65535<t.size
      ·have sb:decide ((65535:Int)<(t.size:Int))=true:=au (by omega);have HF:Hid (E=2):=aa (by rw[<-HE.o];unfold de;rw[h1];simp[hn,hv,h6,hbig]);go_wp2;go_ret;exact⟨by rw[HF.o];rfl,HL.o⟩
      ·have sb:decide ((65535:Int)<(t.size:Int))=false:=ah (by omega);have HF:Hid (E=0):=aa (by rw[<-HE.o];unfold de;rw[h1];simp[hn,hv,h6,hbig]);go_wp2;go_ret;exact⟨by rw[HF.o];rfl,HL.o⟩
     ·have s6:((sh:Int)==6)=false:=ar.2 (by omega)
      go_wp2_with fail
      refine(fk t _ HP.o.1).mono ?_;clear c0 c1 c2 c3 d0 d1 d2 d3;rintro e w1 ⟨rfl,hb⟩;have hz0:=HZ0.o.below hb HZ0.o.lt;have hz1:=HZ1.o.below hb HZ1.o.lt;have hl:=HL.o.trans (hb.mono HL.o.size);clear HZ0 HZ1 HL hb;obtain⟨⟨c0,c1,c2,c3⟩,f0,f1,f2,f3⟩:=hz0.four;obtain⟨⟨d0,d1,d2,d3⟩,g0,g1,g2,g3⟩:=hz1.four;have HZ0:=aa hz0;have HZ1:=aa hz1;have HL:=aa hl
      clear hz0 hz1 hl f0 f1 f2 f3 g0 g1 g2 g3;cases hvt:bN t
      ·have HF:Hid (E=6):=aa (by rw[<-HE.o];unfold de;rw[h1];simp[h4,hn,hv,h6,hvt]);go_wp2;go_ret;exact⟨by rw[HF.o];rfl,HL.o⟩
      ·have HVT:=aa hvt;clear hvt
       go_wp2_with fail
       refine(fk v _ HP.o.2).mono ?_;clear c0 c1 c2 c3 d0 d1 d2 d3;rintro e w1 ⟨rfl,hb⟩;have hz0:=HZ0.o.below hb HZ0.o.lt;have hz1:=HZ1.o.below hb HZ1.o.lt;have hl:=HL.o.trans (hb.mono HL.o.size);clear HZ0 HZ1 HL hb;obtain⟨⟨c0,c1,c2,c3⟩,f0,f1,f2,f3⟩:=hz0.four;obtain⟨⟨d0,d1,d2,d3⟩,g0,g1,g2,g3⟩:=hz1.four;have HZ0:=aa hz0;have HZ1:=aa hz1;have HL:=aa hl
       clear hz0 hz1 hl f0 f1 f2 f3 g0 g1 g2 g3;cases hvv:bN v
       ·have HF:Hid (E=6):=aa (by rw[<-HE.o];unfold de;rw[h1];simp[h4,hn,hv,h6,HVT.o,hvv]);go_wp2;go_ret;exact⟨by rw[HF.o];rfl,HL.o⟩
       ·have HVV:=aa hvv;clear hvv
        by_cases h8:id=8
        ·have s8:(id==8)=true:=aK.2 h8;have H8:=aa h8;clear h8
         go_wp2_with fail
         refine(lw t _ HP.o.1).mono ?_;clear c0 c1 c2 c3 d0 d1 d2 d3;rintro e w1 ⟨rfl,hb⟩;have hz0:=HZ0.o.below hb HZ0.o.lt;have hz1:=HZ1.o.below hb HZ1.o.lt;have hl:=HL.o.trans (hb.mono HL.o.size);clear HZ0 HZ1 HL hb;obtain⟨⟨c0,c1,c2,c3⟩,f0,f1,f2,f3⟩:=hz0.four;obtain⟨⟨d0,d1,d2,d3⟩,g0,g1,g2,g3⟩:=hz1.four;have HZ0:=aa hz0;have HZ1:=aa hz1;have HL:=aa hl
         clear hz0 hz1 hl f0 f1 f2 f3 g0 g1 g2 g3;cases hnm:fp t
         ·have HF:Hid (E=9):=aa (by rw[<-HE.o];unfold de;rw[h1];simp[h4,hn,hv,h6,HVT.o,HVV.o,H8.o,hnm]);go_wp2;go_ret;exact⟨by rw[HF.o];rfl,HL.o⟩
         ·have HF:Hid (E=0):=aa (by rw[<-HE.o];unfold de;rw[h1];simp[h4,hn,hv,h6,HVT.o,HVV.o,H8.o,hnm]);go_wp2;go_ret;exact⟨by rw[HF.o];rfl,HL.o⟩
        ·have s8:(id==8)=false:=ar.2 h8;have HF:Hid (E=0):=aa (by rw[<-HE.o];unfold de;rw[h1];simp[h4,hn,hv,h6,HVT.o,HVV.o,h8]);go_wp2;go_ret;exact⟨by rw[HF.o];rfl,HL.o⟩
   ·have sn:((n:Int) !=0)=true:=aA.2 (by omega);have HF:Hid (E=2):=aa (by rw[<-HE.o];unfold de;rw[h1];simp[h4,hn]);go_wp2;go_ret;exact⟨by rw[HF.o];rfl,HL.o⟩
section
attribute [local go_sem ↓] Go.wp_at_zero Go.wp_at_succ
abbrev ST:TypeId:=138
def fL(f:Nat->Nat):Array Value:=(Array.range 64).map fun i=>.int .i64 (f i)
def upd(f:Nat->Nat)(k v:Nat):Nat->Nat:=fun i=>if i=k then v else f i
theorem mW(f:Nat->Nat)(k:Nat)(h:k<64):(fL f)[k]? =some (.int .i64 (f k)):=by simp[fL,h]
theorem zh(f:Nat->Nat)(k v:Nat):(fL f).setIfInBounds k (.int .i64 v)=fL (upd f k v):=by
 apply Array.ext
 ·simp[fL]
 ·intro i h1 h2;simp only[fL,upd]
  by_cases h:k=i
  ·subst h;simp
  ·rw[Array.getElem_setIfInBounds_ne (by simp[fL]at h1;simpa using h1) h];simp[Ne.symm h]
def iC(f:Nat->Nat)(kind:Int)(k:Nat):Bool:=decide (1<f k+1)&& !gS kind k
theorem sB(g:Nat)(f:Nat->Nat)(kind:Int)(k:Nat)(hk:k<64)(hf:f k<1000000)(w:World)(h:Bk w g ST (fL f)):
  Calls prog 103 #[.pointer (some ⟨g,0,none⟩),.int .i64 kind,.int .i64 k] w fun e w'=>
   e= .returned (.bool (iC f kind k))/\Bk w' g ST (fL (upd f k (f k+1)))/\w.grownBy w' (some g):=by
 have h0:(0:Int)<=(k:Int):=Int.natCast_nonneg _;have h64:(k:Int)<64:=by omega
 have hw:IntKind.i64.wrap ((f k:Int)+1)=((f k+1:Nat):Int):=by rw[aQ];omega
 have hc:w.cell? ⟨g,k,none⟩=some (.int .i64 (f k)):=by rw[h.cell,mW _ _ hk]
 have hfr:=h.free k;have H:=aa h;have HF:Hid (iC f kind k=(decide (1<f k+1)&& !gS kind k)):=aa rfl;have HU:=aa (zh f k (f k+1));generalize hv:f k=v at*;obtain⟨o,ho⟩:∃o,gS kind k=o:=⟨_,rfl⟩;rw[ho]at HF;have HO:=aa ho;clear ho
 clear h hk hf hv;go_enter func103,ntmps103
 go_wp2_with fail
 go_region
 have hz:Bk (w.setCell ⟨g,k,none⟩ (.int .i64 ((v:Int)+1))).drew g ST (fL (upd f k (v+1))):=(H.o.upd k _ HU.o).drewN 1;have hm:w.grownBy (w.setCell ⟨g,k,none⟩ (.int .i64 ((v:Int)+1))).drew (some g):=nW (cP w g k _) 1;have hc2:(w.setCell ⟨g,k,none⟩ (.int .i64 ((v:Int)+1))).drew.cell? ⟨g,k,none⟩=some (.int .i64 ((v:Int)+1)):=by
  rw[hz.cell,mW _ _ (by omega)];simp[upd]
 have HZ:=aa hz;have HM:=aa hm
 clear hz hm hc hfr HU H;generalize (w.setCell ⟨g,k,none⟩ (.int .i64 ((v:Int)+1))).drew=w1 at*
 by_cases hv0:v=0
 ·have d1:decide ((1:Int)<(v:Int)+1)=false:=ah (by omega);have HE:Hid (iC f kind k=false):=aa (by rw[HF.o,hv0];rfl);clear hv0;go_wp2;go_ret;exact⟨by rw[HE.o];rfl,HZ.o,HM.o⟩
 ·have d1:decide ((1:Int)<(v:Int)+1)=true:=au (by omega);have d0:(0:Int)<(v:Int):=by omega
  have HE:Hid (iC f kind k= !o):=aa (by rw[HF.o,au (by omega)];rfl);clear hv0
  go_wp2_with fail
  refine(zJ kind k _).mono ?_;rintro e w2 ⟨rfl,rfl⟩;rw[HO.o];go_wp2;go_ret;exact⟨by rw[HE.o];rfl,HZ.o,HM.o⟩
theorem u6(g:Nat)(f:Nat->Nat)(w:World)(h:Bk w g ST (fL f)):
  Calls prog 105 #[.pointer (some ⟨g,0,none⟩)] w fun e w'=>e= .returned (.bool (decide (0<f 22)&&(f 21==0)))/\w'=w:=by
 have hc1:w.cell? ⟨g,22,none⟩=some (.int .i64 (f 22)):=by rw[h.cell,mW _ _ (by omega)]
 have hc2:w.cell? ⟨g,21,none⟩=some (.int .i64 (f 21)):=by rw[h.cell,mW _ _ (by omega)]
 clear h;generalize f 22=a at*;generalize f 21=b at*
 by_cases ha:0<a
 ·have d1:decide ((0:Int)<(a:Int))=true:=au (by omega);have d2:decide (0<a)=true:=au (by omega);have HA:=aa ha;clear ha;go_enter func105,ntmps105;go_wp2;go_ret;exact⟨by simp[HA.o];rw[eG];simp,rfl⟩
 ·obtain rfl:a=0:=by omega
  go_enter func105,ntmps105;go_wp2;go_ret;exact⟨rfl,rfl⟩
theorem eN(s:ByteArray):(cQ s).size=s.size+2:=by
 unfold cQ;rw[cK];have:((⟨(da s.size 2).toArray⟩:ByteArray)).size=2:=by
  show(da s.size 2).toArray.size=2;simp[fM]
 omega
def kc(sh:Nat)(p:Pr):ByteArray:=
 if sh=1\/sh=2 then⟨(da p.n sh).toArray⟩
 else if sh=3 then⟨(da p.n 4).toArray⟩
 else if sh=4 then⟨(eP p.n).toArray⟩
 else if sh=7 then cQ p.text++cQ p.value
 else cQ p.text
theorem yX(sh:Nat)(p:Pr)(h1:1<=sh)(h7:sh<=7)(hn:p.n<4294967296)(h4:sh=4->p.n<=268435455)(ht:5<=sh->p.text.size<=65535)(hv:5<=sh->p.value.size<=65535)(w:World):
  Calls prog 104 #[.int .i64 sh,p.val] w fun e w'=>e= .returned (.string (kc sh p))/\Below w.heap.size w w':=by
 obtain⟨id,n,t,v⟩:=p;simp only[Pr.val];have HN:Hid (n<4294967296):=aa hn;have H:=aa (And.intro hn (And.intro h4 (And.intro ht hv)));clear hn h4 ht hv;have hw:IntKind.u64.wrap (n:Int)=n:=by rw[iZ];have:=HN.o;omega
 have hw2:IntKind.i64.wrap (n:Int)=n:=by rw[aQ];have:=HN.o;omega
 have HL:=aa ((aq w.heap.size w).alloc (ac _) (.cells #[.int .i64 id,.int .u32 n,.string t,.string v] 102));have HZ:=aa (Bk.fresh w 102 #[.int .i64 id,.int .u32 n,.string t,.string v]);obtain rfl| rfl| rfl| rfl| hs:sh=1\/sh=2\/sh=3\/sh=4\/5<=sh:=by omega
 ·go_enter func104,ntmps104
  go_wp2_with fail
  refine(pD n 1 _ (by have:=HN.o;omega) (by omega) (by omega)).mono ?_;rintro e w1 ⟨rfl,hb⟩;have HL:=aa (HL.o.trans (hb.mono HL.o.size));clear hb
  go_wp2;go_ret;exact⟨rfl,HL.o⟩
 ·go_enter func104,ntmps104
  go_wp2_with fail
  refine(pD n 2 _ (by have:=HN.o;omega) (by omega) (by omega)).mono ?_;rintro e w1 ⟨rfl,hb⟩;have HL:=aa (HL.o.trans (hb.mono HL.o.size));clear hb
  go_wp2;go_ret;exact⟨rfl,HL.o⟩
 ·go_enter func104,ntmps104
  go_wp2_with fail
  refine(pD n 4 _ (by have:=HN.o;omega) (by omega) (by omega)).mono ?_;rintro e w1 ⟨rfl,hb⟩;have HL:=aa (HL.o.trans (hb.mono HL.o.size));clear hb
  go_wp2;go_ret;exact⟨rfl,HL.o⟩
 ·go_enter func104,ntmps104
  go_wp2_with fail
  refine(mP n _ (by simpa using H.o.2.1)).mono ?_;rintro e w1 ⟨rfl,hb⟩;have HL:=aa (HL.o.trans (hb.mono HL.o.size));clear hb
  go_wp2;go_ret;exact⟨rfl,HL.o⟩
 ·have s1:((sh:Int)==1)=false:=ar.2 (by omega);have s2:((sh:Int)==2)=false:=ar.2 (by omega);have s3:((sh:Int)==3)=false:=ar.2 (by omega);have s4:((sh:Int)==4)=false:=ar.2 (by omega);have T:Hid (t.size<=65535):=aa (H.o.2.2.1 hs);have V:Hid (v.size<=65535):=aa (H.o.2.2.2 hs)
  by_cases h7':sh=7
  ·have s7:((sh:Int) !=7)=false:=by subst h7';rfl
   have HE:Hid (kc sh ⟨id,n,t,v⟩=cQ t++cQ v):=aa (by subst h7';rfl);clear hs h1 h7 h7';go_enter func104,ntmps104
   go_wp2_with fail
   refine(mN t _ (by have:=T.o;omega)).mono ?_;rintro e w1 ⟨rfl,hb⟩;rw[if_pos T.o,if_pos T.o];obtain⟨⟨d0,d1,d2,d3⟩,g0,g1,g2,g3⟩:=(HZ.o.below hb HZ.o.lt).four;have HL:=aa (HL.o.trans (hb.mono HL.o.size));clear hb g0 g1 g2 g3 d0 d1 d2
   go_wp2_with fail
   refine(mN v _ (by have:=V.o;omega)).mono ?_;rintro e w2 ⟨rfl,hb⟩;rw[if_pos V.o,if_pos V.o];have HL:=aa (HL.o.trans (hb.mono HL.o.size));clear hb d3
   have hsum:¬(9223372036854775807<(cQ t).size+(cQ v).size):=by have:=T.o;have:=V.o;rw[eN,eN];omega
   go_wp2;go_ret;exact⟨by rw[HE.o];rfl,HL.o⟩
  ·have s7:((sh:Int) !=7)=true:=aA.2 (by omega);have HE:Hid (kc sh ⟨id,n,t,v⟩=cQ t):=aa (by
    unfold kc;rw[ae (by omega),ae (by omega),ae (by omega),ae h7'])
   clear hs h1 h7 h7';go_enter func104,ntmps104
   go_wp2_with fail
   refine(mN t _ (by have:=T.o;omega)).mono ?_;rintro e w1 ⟨rfl,hb⟩;rw[if_pos T.o,if_pos T.o];have HL:=aa (HL.o.trans (hb.mono HL.o.size));clear hb
   go_wp2;go_ret;exact⟨by rw[HE.o];rfl,HL.o⟩
end
section
attribute [local go_sem ↓] Go.wp_at_zero Go.wp_at_succ
def prC(p:Pr):List Value:=[.int .i64 p.id,.int .u32 p.n,.string p.text,.string p.value]
def prs(l:List Pr):List Value:=l.flatMap prC
theorem yt(l:List Pr):(prs l).length=l.length*4:=by
 induction l with
 | nil=>rfl
 | cons p l ih=>simp only[prs,cF,List.length_append,bM];rw[show(List.flatMap prC l).length=l.length*4 from ih];simp[prC];omega
theorem qd:∀(l:List Pr) (i j:Nat) (h:i<l.length),j<4->(prs l)[i*4+j]? =(prC l[i])[j]?
 | p :: l,0,j,_,hj=>by
   simp only[prs,cF,List.getElem_cons_zero];rw[jU,bV,jd (by simp[prC];omega)]
 | p :: l,i+1,j,h,hj=>by
   have h':i<l.length:=by simpa using h
   have ih:=qd l i j h' hj;simp only[prs,cF,List.getElem_cons_succ];rw[iM (by simp[prC];omega)];rw[<-ih]
   congr 1
   simp[prC];omega
theorem Rd.atP{w:World}{B:Nat}{A:Option Addr}{l:List Pr}(h:Rd w B 4 A l.length (prs l)){i:Nat}(hi:i<l.length):∃b o,A=some ⟨b,o,none⟩/\b<B/\
  w.cell? ⟨b,o+i*4,none⟩=some (.int .i64 l[i].id)/\w.cell? ⟨b,o+i*4+1,none⟩=some (.int .u32 l[i].n)/\w.cell? ⟨b,o+i*4+2,none⟩=some (.string l[i].text)/\w.cell? ⟨b,o+i*4+3,none⟩=some (.string l[i].value):=by
 rcases h.2 with h0| ⟨b,o,rfl,hb,hc⟩
 ·have:=yt l;rw[h0]at this;simp at this;omega
 ·refine⟨b,o,rfl,hb,?_,?_,?_,?_⟩
  ·exact hc (i*4+0) _ (qd l i 0 hi (by omega))
  ·rw[Nat.add_assoc];exact hc (i*4+1) _ (qd l i 1 hi (by omega))
  ·rw[Nat.add_assoc];exact hc (i*4+2) _ (qd l i 2 hi (by omega))
  ·rw[Nat.add_assoc];exact hc (i*4+3) _ (qd l i 3 hi (by omega))
def jI(p:Pr):List UInt8:=UInt8.ofNat p.id.toNat :: ls (kc (gH p.id) p)
def jp(f:Nat->Nat):Bool:=decide (0<f 22)&&(f 21==0)
def eO(kind:Int):List Pr->(Nat->Nat)->List UInt8->List UInt8×Int
 | [],f,out=>if jp f=true then([],9)else(eP out.length++out,0)
 | p :: l,f,out=>
   if de (cr p.id) kind p≠0 then([],de (cr p.id) kind p)
   else if iC f kind p.id.toNat=true then([],9)
   else eO kind l (upd f p.id.toNat (f p.id.toNat+1)) (out++jI p)
def aM(kind:Int)(l:List Pr):List UInt8×Int:=if 1000<l.length then([],4)else eO kind l (fun _=>0) []
def Inv(w0:World)(r g B0:Nat)(f:Nat->Nat)(w:World):Prop:=Below w0.heap.size w0 w/\Tab w r/\Bk w g ST (fL f)/\B0<=w.heap.size/\r<B0/\g<B0/\w0.heap.size<=B0
section
variable {w0 w w':World} {r g B0:Nat} {f:Nat->Nat}
theorem Inv.alloc(h:Inv w0 r g B0 f w)(o:Obj):Inv w0 r g B0 f (w.alloc o):=by
 obtain⟨h1,h2,h3,h4,h5,h6,h7⟩:=h;exact⟨h1.alloc (by omega) o,h2.alloc o,h3.alloc o,by simp;omega,h5,h6,h7⟩
theorem Inv.drewN(h:Inv w0 r g B0 f w)(n:Nat):Inv w0 r g B0 f (w.drewN n):=⟨aV h.1 n,h.2.1,h.2.2.1,h.2.2.2⟩
theorem Inv.below(h:Inv w0 r g B0 f w)(hb:Below w.heap.size w w'):Inv w0 r g B0 f w':=by
 obtain⟨h1,h2,h3,h4,h5,h6,h7⟩:=h;exact⟨h1.trans (hb.mono h1.size),h2.below hb h2.lt,h3.below hb h3.lt,aC h4 hb.size,h5,h6,h7⟩
theorem Inv.set(h:Inv w0 r g B0 f w){k i:Nat}(hk:B0<=k)(u:Value):Inv w0 r g B0 f (w.setCell ⟨k,i,none⟩ u):=by
 obtain⟨h1,h2,h3,h4,h5,h6,h7⟩:=h;exact⟨h1.setCell (by show w0.heap.size<=k;omega) u,h2.other (by show r≠k;omega) u,h3.other (by show g≠k;omega) u,by simpa using h4,h5,h6,h7⟩
theorem Inv.four(h:Inv w0 r g B0 f w){k:Nat}(hk:B0<=k)(a b c d:Value):Inv w0 r g B0 f ((((w.setCell ⟨k,0,none⟩ a).setCell ⟨k,1,none⟩ b).setCell ⟨k,2,none⟩ c).setCell ⟨k,3,none⟩ d):=(((h.set hk a).set hk b).set hk c).set hk d
theorem Inv.app{v:Value}(h:Inv w0 r g B0 f w)(hg:w.grownBy w' v.ownBlock)(hv:∀k,v.ownBlock=some k->B0<=k):Inv w0 r g B0 f w':=by
 obtain⟨h1,h2,h3,h4,h5,h6,h7⟩:=h;exact⟨h1.grown hg (by omega) (fun k hk=>by have:=hv k hk;omega),(hg.block r h2.lt (fun e=>by have:=hv _ e.symm;omega)).trans h2,
  (hg.block g h3.lt (fun e=>by have:=hv _ e.symm;omega)).trans h3,by have:=hg.size;omega,h5,h6,h7⟩
theorem Inv.again{f':Nat->Nat}(h:Inv w0 r g B0 f w)(hm:w.grownBy w' (some g))(hrg:r≠g)(hwg:w0.heap.size<=g)(hs:Bk w' g ST (fL f')):Inv w0 r g B0 f' w':=by
 obtain⟨h1,h2,h3,h4,h5,h6,h7⟩:=h;exact⟨h1.grown hm (by omega) (fun k hk=>by cases hk;exact hwg),(hm.block r h2.lt (fun e=>hrg (by cases e;rfl))).trans h2,hs,by have:=hm.size;omega,h5,h6,h7⟩
end
section
variable {P:Program} {w:World}
theorem mS{ops:Array Oper}{o:Oper}{a:Act}{K:Act->World->Prop}{Q:Exit->Act->World->Prop}{E:Prop}(hgd:o.guard=none)(s x:Operand)(t:TypeId)
  (ho:o.op= .call {callee:=.builtin .append,args:=#[s,x],argTypes:=#[t,t]})
  (base:Nat)(e:TypeId)(z:Value)(size bytes:Nat)(ht:P.underlying t=some (.slice e))(hinfo:(P.info? e).map (fun i=>(i.zero,i.size,i.bytes))=some (some z,size,bytes))
  (hzs:z.cells.size=size)(hsz:0<size)(v:Value)(n:Nat)(xs:List Value)(hs:a.eval s=v)(hown:w.ownsRow base e size v n xs)
  (B:Nat)(A:Option Addr)(m c:Nat)(news:List Value)(hx:a.eval x= .slice A m c)(hr:Rd w B size A m news)(h1:∀u∈news,u.oneCell'=true)
  (h63:n+m<=maxLen)(hbytes:(n+m)*bytes<=140737488355328)(hbase:base<=w.heap.size)
  (h:∀v' w',w'.ownsRow base e size v' (n+m) (xs++news)->w.grownBy w' v.ownBlock->(v'.ownBlock=v.ownBlock\/v'.ownBlock=some w.heap.size)->K (a.put o.dst v') w'):
  if Region.wanted o (yielded ops a.tmps)=true then Oper.wp P o a w K Q else E:=by
 have hw:Region.wanted o (yielded ops a.tmps)=true:=by simp[Region.wanted,hgd]
 rw[if_pos hw];exact vY w s x t ho base e z size bytes ht hinfo hzs hsz v n xs hs hown B A m c news hx hr h1 h63 hbytes hbase h
theorem zb{ops:Array Oper}{o:Oper}{a:Act}{K:Act->World->Prop}{Q:Exit->Act->World->Prop}{E:Prop}(hgd:o.guard=none)(sl x:Operand)(t u:TypeId)
  (ho:o.op= .call {callee:=.builtin .append,args:=#[sl,x],argTypes:=#[t,u]})
  (base:Nat)(e:TypeId)(ht:P.underlying t=some (.slice e))(hu:P.underlying u=some .string)(hinfo:(P.info? e).map (fun i=>(i.zero,i.size,i.bytes))=some (some (.int .u8 0),1,1))
  (v:Value)(n:Nat)(xs:List Value)(hs:a.eval sl=v)(hown:w.ownsRow base e 1 v n xs)(s:ByteArray)(hx:a.eval x= .string s)
  (h63:n+s.size<=maxLen)(hbytes:n+s.size<=140737488355328)(hbase:base<=w.heap.size)
  (h:∀v' w',w'.ownsRow base e 1 v' (n+s.size) (xs++bys (ls s))->w.grownBy w' v.ownBlock->K (a.put o.dst v') w'):
  if Region.wanted o (yielded ops a.tmps)=true then Oper.wp P o a w K Q else E:=by
 have hw:Region.wanted o (yielded ops a.tmps)=true:=by simp[Region.wanted,hgd]
 rw[if_pos hw];obtain⟨i,hi,hz,hsize,hby⟩:=o8 hinfo;obtain⟨v',w',hr,h2,h3,h4⟩:=Lib.run_append_own_string (P:=P) w base t u o.type e i ht hu hi hz hsize hby v n xs hown s h63 hbytes hbase;unfold Oper.wp execOp;simp only[ho,resolve,invoke,builtin,Sem.run_bind,Sem.run_pure,ik,kD,fI,gC,hs,hx,hr];exact h v' w' h2 h3
end
end
section
attribute [local go_sem ↓] Go.wp_at_zero Go.wp_at_succ
theorem FE(a b:List UInt8):(⟨a.toArray⟩:ByteArray)++⟨b.toArray⟩=⟨(a++b).toArray⟩:=by
 apply ByteArray.ext;simp[ByteArray.data_append]
theorem mL{s:ByteArray}(h:s.toList.isEmpty=true):s.size=0:=by
 rw[Lib.toList_data]at h;rw[Lib.size_eq];cases hl:s.data.toList with
 | nil=>rfl
 | cons a t=>rw[hl]at h;simp at h
theorem nr{kind:Int}{p:Pr}(h:de (cr p.id) kind p=0):(0<=p.id/\p.id<64)/\1<=gH p.id/\gH p.id<=7/\(gH p.id=4->p.n<=268435455)/\
  (5<=gH p.id->p.text.size<=65535)/\(5<=gH p.id->p.value.size<=65535):=by
 have hh:ng (cr p.id) kind=true:=by
  cases hb:ng (cr p.id) kind
  ·unfold de at h;rw[hb]at h;simp at h
  ·rfl
 have hq:∃q∈dQ,(q.1:Int)=p.id/\cr p.id=q.2:=by
  unfold cr at hh⊢;cases hf:dQ.find? fun q=>(q.1:Int)==p.id with
  | none=>rw[hf]at hh;simp[ng]at hh
  | some q=>exact⟨q,jc hf,by simpa using List.find?_some hf,rfl⟩
 obtain⟨q,hm,hid,hr⟩:=hq;have ht:∀q∈dQ,q.1<64/\1<=q.2.shape/\q.2.shape<=7/\(q.2.shape=4->q.2.most<=268435455):=by decide
 obtain⟨h1,h2,h3,h4⟩:=ht q hm;unfold de at h;rw[hh]at h;unfold gH;rw[hr]at h⊢;simp only[Bool.true_eq_false,if_false]at h;refine⟨by omega,h2,h3,?_,?_,?_⟩
 ·intro hs;rw[if_pos (by omega)]at h;unfold zK at h;split at h
  ·omega
  ·split at h
   ·omega
   ·have:=h4 hs;omega
 ·intro hs;rw[ae (by omega)]at h;split at h
  ·omega
  ·split at h
   ·split at h
    ·omega
    ·omega
   ·split at h
    ·omega
    ·rename_i hv;exact gL (by simpa using fun e=>hv (.inl e))
 ·intro hs;rw[ae (by omega)]at h;split at h
  ·omega
  ·rename_i hv0;split at h
   ·rename_i h6;have:p.value.toList.isEmpty=true:=by
     cases hb:p.value.toList.isEmpty
     ·exact absurd (.inr ⟨hb,by omega⟩) hv0
     ·rfl
    rw[mL this];omega
   ·split at h
    ·omega
    ·rename_i hv;exact gL (by simpa using fun e=>hv (.inr e))
theorem zC{kind:Int}{p:Pr}(h:de (cr p.id) kind p=0):(jI p).length<=131075:=by
 obtain⟨-,h1,h7,h4,ht,hv⟩:=nr h;unfold jI;rw[bM,aN];have:(kc (gH p.id) p).size<=131074:=by
  unfold kc;split
  ·show(da p.n (gH p.id)).toArray.size<=_;simp[fM];omega
  ·split
   ·show(da p.n 4).toArray.size<=_;simp[fM]
   ·split
    ·show(eP p.n).toArray.size<=_;have:=mO 3 p.n;simp[eP];omega
    ·split
     ·rw[cK,eN,eN];have:=ht (by omega);have:=hv (by omega);omega
     ·rw[eN];have:=ht (by omega);omega
 omega
abbrev SS(q:Nat)(a b c d e:Value)(I:World->Prop)(x:World):Prop:=
 x.cell? ⟨q,0,none⟩=some a/\x.cell? ⟨q,1,none⟩=some b/\x.cell? ⟨q,2,none⟩=some c/\x.cell? ⟨q,3,none⟩=some d/\x.cell? ⟨q+1,0,none⟩=some e/\I x
section
variable {q:Nat} {a b c d e:Value} {w0 x y:World} {r g B0:Nat} {f:Nat->Nat}
theorem SS.lt{I:World->Prop}(h:SS q a b c d e I x):q+1<x.heap.size:=eY x _ h.2.2.2.2.1
theorem SS.base(h:SS q a b c d e (Inv w0 r g B0 f) x):B0<=x.heap.size:=h.2.2.2.2.2.2.2.2.1
theorem SS.alloc(h:SS q a b c d e (Inv w0 r g B0 f) x)(o:Obj):SS q a b c d e (Inv w0 r g B0 f) (x.alloc o):=by
 have hl:=h.lt;obtain⟨h1,h2,h3,h4,h5,h6⟩:=h;exact⟨(fD x o _ (by show q<_;omega)).trans h1,(fD x o _ (by show q<_;omega)).trans h2,(fD x o _ (by show q<_;omega)).trans h3,
  (fD x o _ (by show q<_;omega)).trans h4,(fD x o _ (by show q+1<_;omega)).trans h5,h6.alloc o⟩
theorem SS.below(h:SS q a b c d e (Inv w0 r g B0 f) x)(hb:Below x.heap.size x y):SS q a b c d e (Inv w0 r g B0 f) y:=by
 have hl:=h.lt;have hr:=(vM hb).1;obtain⟨h1,h2,h3,h4,h5,h6⟩:=h;exact⟨(hr _ _ (by omega)).trans h1,(hr _ _ (by omega)).trans h2,(hr _ _ (by omega)).trans h3,(hr _ _ (by omega)).trans h4,(hr _ _ (by omega)).trans h5,h6.below hb⟩
theorem SS.app{v:Value}(h:SS q a b c d e (Inv w0 r g B0 f) x)(hg:x.grownBy y v.ownBlock)(hv:∀k,v.ownBlock=some k->B0<=k/\k≠q/\k≠q+1):SS q a b c d e (Inv w0 r g B0 f) y:=by
 obtain⟨h1,h2,h3,h4,h5,h6⟩:=h;have n1:some q≠v.ownBlock:=fun e=>(hv _ e.symm).2.1 rfl;have n2:some (q+1)≠v.ownBlock:=fun e=>(hv _ e.symm).2.2 rfl;exact⟨hg.cell h1 n1,hg.cell h2 n1,hg.cell h3 n1,hg.cell h4 n1,hg.cell h5 n2,h6.app hg fun k hk=>(hv k hk).1⟩
theorem BQ{t:TypeId}{k n:Nat}{xs:List Value}{v v1:Value}{I:World->Prop}(h1:y.ownsRow B0 t k v1 n xs)(hat:v1.ownBlock=v.ownBlock\/v1.ownBlock=some x.heap.size)(hS:SS q a b c d e I x)
  (hv:∀k,v.ownBlock=some k->B0<=k/\k≠q/\k≠q+1):∀k,v1.ownBlock=some k->B0<=k/\k≠q/\k≠q+1:=by
 intro m hm;have hl:=hS.lt;rcases hat with hat| hat
 ·exact hv m (hat▸hm)
 ·rw[hat]at hm;have hb:=(cX h1 m (hat▸hm)).1;cases hm;exact⟨hb,by omega,by omega⟩
end
theorem kJ:fL (fun _=>0)= #[.int .i64 0,.int .i64 0,.int .i64 0,.int .i64 0,.int .i64 0,.int .i64 0,.int .i64 0,.int .i64 0,.int .i64 0,.int .i64 0,.int .i64 0,.int .i64 0,.int .i64 0,.int .i64 0,.int .i64 0,.int .i64 0,.int .i64 0,.int .i64 0,.int .i64 0,.int .i64 0,.int .i64 0,.int .i64 0,.int .i64 0,.int .i64 0,.int .i64 0,.int .i64 0,.int .i64 0,.int .i64 0,.int .i64 0,.int .i64 0,.int .i64 0,.int .i64 0,.int .i64 0,.int .i64 0,.int .i64 0,.int .i64 0,.int .i64 0,.int .i64 0,.int .i64 0,.int .i64 0,.int .i64 0,.int .i64 0,.int .i64 0,.int .i64 0,.int .i64 0,.int .i64 0,.int .i64 0,.int .i64 0,.int .i64 0,.int .i64 0,.int .i64 0,.int .i64 0,.int .i64 0,.int .i64 0,.int .i64 0,.int .i64 0,.int .i64 0,.int .i64 0,.int .i64 0,.int .i64 0,.int .i64 0,.int .i64 0,.int .i64 0,.int .i64 0]:=by kernel_rfl
theorem xA(kind:Int)(l:List Pr)(hok:∀p∈l,p.Ok)(A:Option Addr)(cap:Nat)(w:World)(h:Rd w w.heap.size 4 A l.length (prs l))(hl:l.length<=4611686018427387904):
  Calls prog 57 #[.int .i64 kind,.slice A l.length cap] w fun e w'=>e= .returned (.tuple #[.string ⟨(aM kind l).1.toArray⟩,.int .i64 (aM kind l).2])/\Below w.heap.size w w':=by
 by_cases hlen:1000<l.length
 ·have d1:decide ((1000:Int)<(l.length:Int))=true:=au (by omega);have d2:(1000:Int)<(l.length:Int):=by omega
  have HF:Hid (aM kind l=([],4)):=aa (by rw[aM,if_pos hlen]);clear h hl hok hlen;go_enter func57,ntmps57;go_wp2;go_ret2;exact⟨by rw[HF.o];rfl,aq _ _⟩
 ·have d1:decide ((1000:Int)<(l.length:Int))=false:=ah (by omega);have HF:Hid (aM kind l=eO kind l (fun _=>0) []):=aa (by rw[aM,ae hlen]);have HA:=aa (show l.length<=1000 by omega);have HR:=aa h;have HO:=aa hok
  clear h hl hok hlen;go_enter func57,ntmps57
  go_wp2_with fail
  refine(rK _).mono ?_;rintro e w1 ⟨rfl,hT,hb⟩;have HI:Hid (Inv w w.heap.size w1.heap.size (w1.heap.size+1) (fun _=>0) (w1.alloc (.cells (fL fun _=>0) ST))):=aa
   ⟨hb.alloc hb.size _,hT.alloc _,Bk.fresh _ _ _,by simp,by have:=hT.lt;omega,by omega,by have:=hb.size;omega⟩
  have HT:=aa hT;have HB:=aa hb
  clear hT hb
  go_wp2_with fail
  go_loopw [8,21] (fun v i wr=>∃(k:Nat) (f:Nat->Nat) (out:List UInt8),k<=l.length/\i= .int .i64 k/\eO kind l (fun _=>0) []=eO kind (l.drop k) f out/\out.length<=k*131075/\(∀i,f i<=k)/\
    Inv w w.heap.size w1.heap.size (w1.heap.size+1) f wr/\wr.ownsRow (w1.heap.size+1) 5 1 v out.length (bys out)) (fun _ i _=>l.length- (intOf i).toNat)
  case atStart=>exact⟨0,fun _=>0,[],by omega,rfl,rfl,by simp,fun _=>ac 0,by have:=HI.o;rw[kJ]at this;exact this,dD _ _ _ _⟩
  case round=>
   obtain⟨k,f,out,hk,rfl,hgo,hol,hf,hinv,hown⟩:=hrel;have HGO:=aa hgo;have HOL:=aa hol;have HF':=aa hf;have HINV:=aa hinv;have HOWN:=aa hown
   clear hgo hol hf hinv hown
   by_cases hlt:k<l.length
   ·obtain⟨b,o,rfl,hb,c0,c1,c2,c3⟩:=(HR.o.below HINV.o.1).atP hlt;have HP:=aa (HO.o l[k] (iY hlt));have HD:=aa (bQ hlt);obtain⟨p,hp⟩:∃p,l[k]=p:=⟨_,rfl⟩;rw[hp]at c0 c1 c2 c3 HP HD;have HLT:=aa hlt;clear hp;obtain⟨id,n,t,v⟩:=p;have h0k:(0:Int)<=(k:Int):=by omega
    have hki:(k:Int)<(l.length:Int):=by omega
    obtain⟨sh,ki,le,mo,HRL,hlk⟩:=rL id;have hl1:=hlk _ _ (HINV.o.alloc (.cells #[.int .i64 id,.int .u32 n,.string t,.string v] 102)).2.1;have hz1:=(Bk.fresh wr 102 #[.int .i64 id,.int .u32 n,.string t,.string v]).alloc (.cells #[.int .i64 sh,.int .i64 ki,.int .u32 le,.int .u32 mo] 140);have hz2:Bk ((wr.alloc (.cells #[.int .i64 id,.int .u32 n,.string t,.string v] 102)).alloc (.cells #[.int .i64 sh,.int .i64 ki,.int .u32 le,.int .u32 mo] 140)) (wr.heap.size+1) 140 #[.int .i64 sh,.int .i64 ki,.int .u32 le,.int .u32 mo]:=by
     simpa using Bk.fresh (wr.alloc (.cells #[.int .i64 id,.int .u32 n,.string t,.string v] 102)) 140 #[.int .i64 sh,.int .i64 ki,.int .u32 le,.int .u32 mo]
    have HINV2:=aa ((HINV.o.alloc (.cells #[.int .i64 id,.int .u32 n,.string t,.string v] 102)).alloc (.cells #[.int .i64 sh,.int .i64 ki,.int .u32 le,.int .u32 mo] 140));have HOWN2:=aa ((HOWN.o.alloc (.cells #[.int .i64 id,.int .u32 n,.string t,.string v] 102)).alloc (.cells #[.int .i64 sh,.int .i64 ki,.int .u32 le,.int .u32 mo] 140));have HZ1:=aa hz1;have HZ2:=aa hz2
    have HSZ:Hid (w1.heap.size+1<=wr.heap.size):=aa HINV.o.2.2.2.1;clear hz1 hz2 hlk
    go_wp2_with fail
    refine(sw ⟨sh,ki,le,mo⟩ (HRL.o▸nL id) kind ⟨id,n,t,v⟩ HP.o _).mono ?_;rintro e w2 ⟨rfl,hb2⟩;have HY1:=aa (HZ1.o.below hb2 HZ1.o.lt);have HY2:=aa (HZ2.o.below hb2 HZ2.o.lt);have HINV3:=aa (HINV2.o.below hb2);have HOWN3:=aa (dV HOWN2.o hb2);clear hb2 hl1 c0 c1 c2 c3 HZ1 HZ2 HINV2 HOWN2 HINV HOWN;obtain⟨E,hE⟩:∃E,de ⟨sh,ki,le,mo⟩ kind ⟨id,n,t,v⟩=E:=⟨_,rfl⟩;rw[hE];have HE:Hid (de (cr id) kind ⟨id,n,t,v⟩=E):=aa (by rw[HRL.o];exact hE);clear hE
    by_cases hE0:E=0
    ·have e0:(E !=0)=false:=by subst hE0;rfl
     obtain⟨⟨hid0,hid64⟩,hs1,hs7,hs4,hst,hsv⟩:=nr (p:=⟨id,n,t,v⟩) (HE.o.trans hE0);obtain⟨c,hc⟩:∃c:UInt8,(c.toNat:Int)=id:=⟨UInt8.ofNat id.toNat,by simp only at hid0 hid64;rw[UInt8.toNat_ofNat'];omega⟩;subst hc;have hshape:gH (c.toNat:Int)=sh:=by rw[gH,HRL.o]
     simp only[hshape]at hs1 hs7 hs4 hst hsv;have HV:=aa (And.intro hs1 (And.intro hs7 (And.intro hs4 (And.intro hst hsv))));have HC:Hid (c.toNat<64):=aa (by simp only at hid64;omega);have HLEN:=aa (zC (p:=⟨(c.toNat:Int),n,t,v⟩) (HE.o.trans hE0));have HSH:=aa hshape;obtain⟨⟨d0,d1',d2,d3⟩,g0,g1,g2,g3⟩:=HY1.o.four;clear hid0 hid64 hs1 hs7 hs4 hst hsv hshape g0 g1 g2 g3;have HE0:=aa hE0;clear hE0
     go_wp2_with fail
     refine(sB w1.heap.size f kind c.toNat HC.o (by have:=HF'.o c.toNat;have:=HLT.o;have:=HA.o;omega) w2 HINV3.o.2.2.1).mono ?_;rintro e w3 ⟨rfl,hs3,hm3⟩;have hgr:w1.heap.size≠wr.heap.size:=by have:=HSZ.o;omega
     have hgr2:w1.heap.size≠wr.heap.size+1:=by have:=HSZ.o;omega
     have HX1:Hid (Bk w3 wr.heap.size 102 #[.int .i64 c.toNat,.int .u32 n,.string t,.string v]):=aa ((hm3.block _ HY1.o.lt (by simpa using fun e=>hgr e.symm)).trans HY1.o);have HX2:Hid (Bk w3 (wr.heap.size+1) 140 #[.int .i64 sh,.int .i64 ki,.int .u32 le,.int .u32 mo]):=aa ((hm3.block _ HY2.o.lt (by simpa using fun e=>hgr2 e.symm)).trans HY2.o);have HINV4:=aa (HINV3.o.again hm3 (by have:=HT.o.lt;omega) HB.o.size hs3);have HOWN4:=aa (HOWN3.o.kept hm3 (.inr fun e=>by have:=(cX HOWN3.o _ e).1;omega));clear hm3 hs3 HY1 HY2 HINV3 HOWN3 hgr hgr2 d0 d1' d2 d3;obtain⟨G,hG⟩:∃G,iC f kind c.toNat=G:=⟨_,rfl⟩;rw[hG];cases G
     ·have HG:=aa hG;clear hG
      obtain⟨⟨d0,d1',d2,d3⟩,-⟩:=HX1.o.four;obtain⟨⟨r0,r1,r2,r3⟩,-⟩:=HX2.o.four;have hw8:IntKind.u8.wrap (c.toNat:Int)=(c.toNat:Int):=by have:=UInt8.toNat_lt c;rw[GM];omega
      have hq1:u8.ownBlock≠some wr.heap.size:=nS HOWN4.o HX1.o (by decide);have hq2:u8.ownBlock≠some (wr.heap.size+1):=nS HOWN4.o HX2.o (by decide);have HQ:Hid (∀m,u8.ownBlock=some m->w1.heap.size+1<=m/\m≠wr.heap.size/\m≠wr.heap.size+1):=aa fun m hm=>
       ⟨(cX HOWN4.o m hm).1,fun e=>hq1 (by rw[hm,e]),fun e=>hq2 (by rw[hm,e])⟩
      have HN4:Hid (n<4294967296):=aa HP.o.1;obtain⟨VV,hVV⟩:∃VV,kc sh ⟨(c.toNat:Int),n,t,v⟩=VV:=⟨_,rfl⟩;have HVL:Hid (VV.size<=131074):=aa (by have:=HLEN.o;unfold jI at this;rw[HSH.o,hVV,bM,aN]at this;omega);have HOL2:Hid (out.length<=131075000):=aa (by have:=HOL.o;have:=HA.o;have:=HLT.o;omega);have HVV:=aa hVV;clear hq1 hq2 hVV r1 r2 r3
      go_wp2_with fail
      go_region_held3 (fun x=>x.cell? ⟨wr.heap.size,0,none⟩=some (.int .i64 c.toNat)/\x.cell? ⟨wr.heap.size,1,none⟩=some (.int .u32 n)/\x.cell? ⟨wr.heap.size,2,none⟩=some (.string t)/\x.cell? ⟨wr.heap.size,3,none⟩=some (.string v)/\
        x.cell? ⟨wr.heap.size+1,0,none⟩=some (.int .i64 sh)/\Inv w w.heap.size w1.heap.size (w1.heap.size+1) (upd f c.toNat (f c.toNat+1)) x)
       (first| exact⟨d0,d1',d2,d3,r0,HINV4.o.drewN 1⟩ | exact SS.app (by assumption) hg2 hv1| exact SS.app (by assumption) hg1 HQ.o| exact SS.below (by assumption) hbv| exact SS.alloc (by assumption) _)
       (first| (go_at_call 104;refine(yX sh ⟨(c.toNat:Int),n,t,v⟩ HV.o.1 HV.o.2.1 HN4.o HV.o.2.2.1 HV.o.2.2.2.1 HV.o.2.2.2.2 _).mono ?_;rintro e w4 ⟨rfl,hbv⟩;rw[HVV.o])
             | (refine mS (by rfl) _ _ _ (by rfl) (w1.heap.size+1) 5 (.int .u8 0) 1 1 underlying80 ku rfl (by decide) u8 _ _ (by rfl)
                 (by first| exact dV ((lV HOWN4.o 1).alloc _) hbv| exact(dV (lV HOWN4.o 1) hbv).alloc _| exact(lV HOWN4.o 1).alloc _) _ _ 1 1 (bys [c]) (by rfl)
                 (by first| exact(Rd.lit _ _ _ rfl (ed _) rfl).below hbv| exact Rd.lit _ _ _ rfl (ed _) rfl) (tG _) (by have:=HOL2.o;unfold maxLen;omega) (by have:=HOL2.o;omega) (SS.base (by assumption)) ?_;intro v1 w5 hown1 hg1 hat1;have hv1:=BQ hown1 hat1 (by assumption) HQ.o)
             | (refine zb (by rfl) _ _ _ _ (by rfl) (w1.heap.size+1) 5 underlying80 underlying9 ku v1 _ _ (by rfl)
                 (by first| exact dV hown1 hbv| exact hown1) VV (by rfl) (by have:=HOL2.o;have:=HVL.o;unfold maxLen;omega) (by have:=HOL2.o;have:=HVL.o;omega) (SS.base (by assumption)) ?_;intro v2 w6 hown2 hg2))
      have hI:SS wr.heap.size (.int .i64 c.toNat) (.int .u32 n) (.string t) (.string v) (.int .i64 sh) (Inv w w.heap.size w1.heap.size (w1.heap.size+1) (upd f c.toNat (f c.toNat+1))) w6:=by assumption
      have R:∃(f':Nat->Nat) (out':List UInt8),eO kind l (fun _=>0) []=eO kind (l.drop (k+1)) f' out'/\out'.length<=(k+1)*131075/\(∀i,f' i<=k+1)/\
        Inv w w.heap.size w1.heap.size (w1.heap.size+1) f' w6/\w6.ownsRow (w1.heap.size+1) 5 1 v2 out'.length (bys out'):=by
       have hpl:jI ⟨(c.toNat:Int),n,t,v⟩=c :: ls VV:=by
        unfold jI;rw[HSH.o,HVV.o];simp
       refine⟨_,out++jI ⟨(c.toNat:Int),n,t,v⟩,?_,?_,?_,hI.2.2.2.2.2,?_⟩
       ·rw[HGO.o,HD.o,eO,ae (by rw[HE.o,HE0.o];simp),ae (by simp[HG.o])];simp
       ·have:=HLEN.o;have:=HOL.o
        rw[List.length_append];omega
       ·intro i;have q1:=HF'.o c.toNat;have q2:=HF'.o i;show(if i=c.toNat then f c.toNat+1 else f i)<=k+1
        by_cases hi:i=c.toNat
        ·rw[if_pos hi];omega
        ·rw[ae hi];omega
       ·rw[hpl];have e1:(out++c :: ls VV).length=out.length+1+VV.size:=by simp[aN];omega
        have e2:bys (out++c :: ls VV)=bys out++bys [c]++bys (ls VV):=by simp[bys]
        rw[e1,e2];exact hown2
      have HRR:=aa R;have hk1k:(k:Int)<1000:=by have:=HA.o;have:=HLT.o;omega
      clear R hI hown1 hown2 hg1 hg2 hat1 hv1 hbv d0 d1' d2 d3 r0;go_wp2
      go_roundw
      case rel=>
       obtain⟨f',out',r1,r2,r3,r4,r5⟩:=HRR.o;exact⟨k+1,f',out',by omega,by go_num,r1,r2,r3,r4,r5⟩
      case measure=>simp[intOf];omega
     ·have HX:Hid (aM kind l=([],9)):=aa (by rw[HF.o,HGO.o,HD.o,eO,ae (by rw[HE.o,HE0.o];simp),if_pos (by simpa using hG)]);have HB2:=aa HINV4.o.1;clear hG;go_wp2;go_ret2;exact⟨by rw[HX.o];rfl,HB2.o⟩
    ·have e0:(E !=0)=true:=aA.2 hE0;have HX:Hid (aM kind l=([],E)):=aa (by rw[HF.o,HGO.o,HD.o,eO,if_pos (by rw[HE.o];exact hE0),HE.o]);have HB2:=aa HINV3.o.1;go_wp2;go_ret2;exact⟨by rw[HX.o];rfl,HB2.o⟩
   ·obtain rfl:k=l.length:=by omega
    have hend:eO kind l (fun _=>0) []=if jp f=true then([],9)else(eP out.length++out,0):=by
     rw[HGO.o,ox];rfl
    have HEND:=aa hend;clear hend
    obtain⟨A',c',rfl,hc',hrd⟩:=jK HOWN.o;have HRD:=aa hrd;clear hrd
    have HOL2:Hid (out.length<=131075000):=aa (by have:=HOL.o;have:=HA.o;omega)
    go_wp2_with fail
    refine(u6 w1.heap.size f _ HINV.o.2.2.1).mono ?_;rintro e w2 ⟨rfl,hw2⟩;subst hw2;rw[show(decide (0<f 22)&&f 21==0)=jp f from rfl];cases hL:jp f
    ·have HX:Hid (aM kind l=(eP out.length++out,0)):=aa (by rw[HF.o,HEND.o,hL];rfl);clear hL
     go_wp2_with fail
     refine(mP out.length _ (by have:=HOL2.o;omega)).mono ?_;rintro e w3 ⟨rfl,hb3⟩;have hconv:=ni (P:=prog) 80 9 5 underlying80 underlying5 underlying9 c' (HRD.o.below hb3);have HBB:=aa (HINV.o.1.trans (hb3.mono HINV.o.1.size));have hsum:¬(9223372036854775807<(⟨(eP out.length).toArray⟩:ByteArray).size+(⟨out.toArray⟩:ByteArray).size):=by
      have h1:(⟨(eP out.length).toArray⟩:ByteArray).size=(eP out.length).length:=by show(eP out.length).toArray.size=_;simp
      have h2:(⟨out.toArray⟩:ByteArray).size=out.length:=by show out.toArray.size=_;simp
      have:=mO 3 out.length;have:=HOL2.o;rw[h1,h2];unfold eP;omega
     clear hb3;go_wp2;go_ret2;exact⟨by rw[HX.o];exact congrArg (fun b=>Ending.returned (.tuple #[.string b,.int .i64 0])) (FE _ _),HBB.o⟩
    ·have HX:Hid (aM kind l=([],9)):=aa (by rw[HF.o,HEND.o,hL];rfl);have HBB:=aa HINV.o.1;clear hL;go_wp2;go_ret2;exact⟨by rw[HX.o];rfl,HBB.o⟩
end
theorem vZ(kind:Int)(l:List Pr)(hok:∀p∈l,p.Ok)(A:Option Addr)(cap:Nat)(w:World)(h:Rd w w.heap.size 4 A l.length (prs l))(hl:l.length<=4611686018427387904):
  Calls prog 75 #[.int .i64 kind,.slice A l.length cap] w fun e w'=>e= .returned (.int .i64 (aM kind l).2)/\Below w.heap.size w w':=by
 have H:=aa (xA kind l hok A cap w h hl);clear h hok hl
 go_enter func75,ntmps75
 go_wp2_with fail
 refine H.o.mono ?_;rintro e w1 ⟨rfl,hb⟩;go_wp2;go_ret;exact⟨rfl,hb⟩
theorem Rd.lit4(w:World)(cs:Array Value)(t:TypeId)(l:List Pr)(hx:cs.toList=prs l):Rd (w.alloc (.cells cs t)) (w.alloc (.cells cs t)).heap.size 4 (some ⟨w.heap.size,0,none⟩) l.length (prs l):=by
 refine⟨yt l,.inr ⟨w.heap.size,0,rfl,by simp,fun j u hu=>?_⟩⟩;rw[bV,cell_of_row _ w.heap.size j cs t (0,0) (me w _)];rw[<-hx]at hu
 simpa using hu
end Go.Proofs.YtbdgkkmbnahgiaaGreatDoor
