/- A part of what the laws stand on: MKit, MPro, MPrp, Open, MReaB, MAck, MLis, MPubA, MTai, HdP, MPubB. -/
import Derived.Test.YtpcleamaieaefaaGreatDoorMeG0MPubB
set_option maxRecDepth 10000
set_option maxHeartbeats 8000000
namespace Go.Proofs.YtpcleamaieaefaaGreatDoor
open Go.RowKit
section
variable {w w':World} {B B' k n:Nat} {A:Option Addr} {xs:List Value}
theorem Rd.drewN (h:Rd w B k A n xs) (m:Nat):Rd (w.drewN m) B k A n xs:=h
theorem Rd.alloc (h:Rd w B k A n xs) (hB:B≤w.heap.size) (o:Obj):Rd (w.alloc o) B k A n xs:=h.by_cells fun p hp=>fD w o p (by omega)
end
section
variable {w w':World} {g:Nat} {t:TypeId} {cs:Array Value}
end
section
variable {P:Program} (w:World)
end
theorem Kr (l:List Nat):∀u∈(l.map fun c:Nat=>Value.int .i64 (c:Int)),u.oneCell'=true:=by
 intro u hu;obtain⟨c,_,rfl⟩:=jX.1 hu;rfl
end Go.Proofs.YtpcleamaieaefaaGreatDoor
namespace Go.Proofs.YtpcleamaieaefaaGreatDoor
open Go.RowKit
section
variable {P:Program} {t e:TypeId} {s:Nat} (ht:P.underlying t=some (.slice e)) (hz:∀w,(sizeOf e).run P w= .ok s w)
include ht hz
theorem NV (A:Option Addr) (n c k:Nat) (hk:k≤n) (W:World):(Instr.slice t (.slice A n c) (some (.int .i64 (k:Int))) none none).run P W= .ok (.slice (xt A c k s) (n- k) (c- k)) W:=by
 have h0:(0:Int)≤(k:Int):=by omega
 have h1:(k:Int)≤(n:Int):=by omega
 simp[Instr.slice,run_underlying ht,Instr.sliceBounds,run_sliceBound,hz,xt,hk]
end
section
variable {w:World} {B s n:Nat} {A:Option Addr} {xs:List Value}
theorem Rd.cut_from (h:Rd w B s A n xs) {k c:Nat} (hk:k≤n) (hc:n≤c):Rd w B s (xt A c k s) (n- k) (xs.drop (k*s)):=by
 have hl:(xs.drop (k*s)).length=(n- k)*s:=by rw[bU,h.1,Nat.sub_mul]
 refine⟨hl,?_⟩;rcases h.2 with h0| ⟨b,o,rfl,hb,hcell⟩
 ·left;subst h0;simp
 ·by_cases hck:c=k
  ·left
   apply aF;rw[hl,show n- k=0 by omega,jU]
  ·right
   refine⟨b,o+k*s,?_,hb,fun j u hu=>?_⟩
   ·unfold xt;rw[ae hck];simp[Addr.add_lit]
   ·rw[List.getElem?_drop]at hu;rw[Nat.add_assoc];exact hcell _ u hu
end
end Go.Proofs.YtpcleamaieaefaaGreatDoor
namespace Go.Proofs.YtpcleamaieaefaaGreatDoor
open Go.RowKit
theorem Qg (l:List Int):(iv l).length=l.length:=by simp[iv]
def Jv (kind id:Int):Bool:=ng (cr id) kind
def Km (kind id:Int):Bool:=gS kind id&&Jv kind id
theorem ME (k:Nat) (a b:List Pr):cnt k (a++b)=cnt k a+cnt k b:=by simp[cnt]
theorem JR (kind:Int):∀(l:List Pr) (f:Nat→Nat) (out:List UInt8),(eO kind l f out).2≠0→(eO kind l f out).1=[]
 | [],f,out=>by
   rw[eO];cases h:jp f<;>simp
 | p :: l,f,out=>by
   rw[eO]
   by_cases hc:de (cr p.id) kind p=0
   ·rw[ae (by simpa using hc)]
    by_cases ha:iC f kind p.id.toNat=true
    ·rw[if_pos ha];intro _;rfl
    ·rw[ae ha];exact JR kind l _ _
   ·rw[if_pos hc];intro _;rfl
theorem Ix (kind:Int) (l:List Pr) (h:(aM kind l).2≠0):(aM kind l).1=[]:=by
 unfold aM at h⊢
 by_cases hl:1000<l.length
 ·rw[if_pos hl]
 ·rw[ae hl]at h⊢;exact JR kind l _ _ h
theorem KN {kind:Int} {p:Pr} (h:de (cr p.id) kind p=0):Km kind p.id=gS kind p.id.toNat:=by
 have hid:=(nr h).1;have hm:Jv kind p.id=true:=by
  unfold Jv;rcases hh:ng (cr p.id) kind with _| _
  ·unfold de at h;rw[if_pos hh]at h;exact absurd h (by decide)
  ·rfl
 have e:((p.id.toNat:Nat):Int)=p.id:=by omega
 unfold Km;rw[hm,IK,e]
theorem Kv {kind:Int} {a b:List Pr}:ckL kind (a++b)↔ckL kind a∧ckL kind b:=by
 unfold ckL
 constructor
 ·intro h;exact⟨fun p hp=>h p (cj.2 (.inl hp)),fun p hp=>h p (cj.2 (.inr hp))⟩
 ·rintro ⟨h1,h2⟩ p hp;rcases cj.1 hp with hp| hp
  ·exact h1 p hp
  ·exact h2 p hp
theorem M9 (w:World):(sizeOf 97).run Tryz.prog w= .ok 4 w:=by kernel_rfl
theorem Oh (l:List Pr) (k:Nat):(prs l).take (k*4)=prs (l.take k):=by
 induction k generalizing l with
 | zero=>simp[prs]
 | succ k ih=>
   cases l with
   | nil=>simp[prs]
   | cons p l=>
     rw[show(k+1)*4=4+k*4 by omega];have:=ih l;simp[prs,prC]at this⊢;rw[show 4+k*4=k*4+1+1+1+1 by omega]
     simpa using this
def wt (l:List Pr):Nat:=(l.map fun p=>p.text.size+p.value.size).sum
theorem OT (l:List Pr) (k:Nat) (h:k<l.length):wt (l.take (k+1))=wt (l.take k)+l[k].text.size+l[k].value.size:=by
 unfold wt;rw[fE h,Ii,List.sum_append];simp only[fI,gC,List.sum_cons,List.sum_nil];omega
def KT (l:List Pr):Prop:=∀p∈l,p.text.size≤140737488351232∧p.value.size≤140737488351232
theorem Jm {l:List Pr} (h:∀p∈l,ea p):KT l:=fun p hp=>(h p hp).2
theorem PS:∀(l:List Pr),KT l→wt l≤l.length*281474976702464
 | [],_=>by simp[wt]
 | p :: l,h=>by
   have h1:=PS l (fun q hq=>h q (kV _ hq));have h2:=h p (by simp);simp[wt]at h1⊢;omega
theorem Me {l:List Pr} (h:KT l) (k:Nat):KT (l.take k):=fun p hp=>h p (IU hp)
theorem Mb (l:List Pr) (A:Option Addr) (c:Nat) (w:World) (h:Rd w w.heap.size 4 A l.length (prs l)) (hl:l.length≤1010) (hs:KT l):
  Calls Tryz.prog 113 #[.slice A l.length c] w fun e w'=>e= .returned (.int .i64 (wt l))∧Below w.heap.size w w':=by
 have H:=aa h;have HS:=aa hs;clear h hs
 go_enter Tryz.func113,Tryz.ntmps113
 go_wp2
 go_loopw [3,4] (fun n i wr=>∃k:Nat,k≤l.length∧i= .int .i64 k∧n= .int .i64 (wt (l.take k))∧Below w.heap.size w wr) (fun _ i _=>l.length- (intOf i).toNat)
 case atStart=>exact⟨0,by omega,rfl,rfl,aq _ _⟩
 case round=>
  obtain⟨k,hk,rfl,rfl,hbel⟩:=hrel
  by_cases hlt:k<l.length
  ·obtain⟨b,o,rfl,hb,c0,c1,c2,c3⟩:=(H.out.below hbel).atP hlt;have h2:=HS.out l[k] (iY hlt);have h3:=PS (l.take k) (Me HS.out k);rw[cY]at h3;have h3':wt (l.take k)≤284289726469488640:=by omega
   have HW:=aa (OT l k hlt);clear h3 c0 c1;generalize wt (l.take k)=q at*;generalize l[k]=p at*;obtain⟨id,n,t,v⟩:=p;simp only at h2 HW c2 c3;obtain⟨h4,h5⟩:=h2;have w1:IntKind.i64.wrap ((q:Int)+(t.size:Int))=(q:Int)+(t.size:Int):=by rw[aQ];omega
   have w2:IntKind.i64.wrap ((q:Int)+(t.size:Int)+(v.size:Int))=(q:Int)+(t.size:Int)+(v.size:Int):=by rw[aQ];omega
   have b1:(0:Int)≤(k:Int):=by omega
   have b2:(k:Int)<(l.length:Int):=by omega
   go_wp2
   go_quiet (fail)
   go_wp2
   go_roundw
   case rel=>exact⟨k+1,by omega,by go_num,by rw[HW.out];go_num,aV hbel _⟩
   case measure=>simp[intOf];omega
  ·obtain rfl:k=l.length:=by omega
   go_wp2
   go_ret
   exact⟨by rw[GK];rfl,hbel⟩
def Ig (l:List Pr):Bool:=decide (l.length≤1010)&&decide (wt l≤140000)
theorem Kq (l:List Pr) (A:Option Addr) (c:Nat) (w:World) (h:Rd w w.heap.size 4 A l.length (prs l)) (hl:l.length≤4611686018427387904) (hs:KT l):
  Calls Tryz.prog 69 #[.slice A l.length c] w fun e w'=>e= .returned (.bool (Ig l))∧Below w.heap.size w w':=by
 have H:=aa h;have HS:=aa hs;clear h hs
 by_cases h1:l.length≤1010
 ·have HF:Hid (Ig l=decide (wt l≤140000)):=aa (by rw[Ig,au h1,aL]);have d1:(l.length:Int)≤1010:=by omega
  have HL:=aa h1
  go_enter Tryz.func69,Tryz.ntmps69
  go_wp2_with fail
  refine(Mb l A c _ H.out HL.out HS.out).mono ?_;rintro e w1 ⟨rfl,hb⟩
  go_wp2
  go_ret
  exact⟨by rw[HF.out];congr 2;simp;omega,hb⟩
 ·have HF:Hid (Ig l=false):=aa (by rw[Ig,ah h1,bj]);have d1:(1010:Int)<(l.length:Int):=by omega
  clear h1
  go_enter Tryz.func69,Tryz.ntmps69
  go_wp2
  go_ret
  exact⟨by rw[HF.out];rfl,aq _ _⟩
theorem Jw {kind:Int}:∀ {l:List Pr},ckL kind l→(l.flatMap jI).length≤l.length*131075
 | [],_=>by simp
 | p :: l,h=>by
   have h1:=zC (h p (by simp));have h2:=Jw (fun q hq=>h q (kV _ hq));rw[cF,List.length_append,bM];omega
theorem G6 (kind:Int) (l:List Pr) (h:(aM kind l).2=0):(l.flatMap jI).length≤131075000∧(aM kind l).1.length≤131075004:=by
 have hb:=tE kind l h;obtain⟨h1,h2,_⟩:=(sx kind l).1 h;have h3:=Jw h2;refine⟨by omega,?_⟩;rw[hb];have:=mO 3 (l.flatMap jI).length;simp only[eP,List.length_append];omega
theorem GW (l:List UInt8):(⟨l.toArray⟩:ByteArray).size=l.length:=by show l.toArray.size=_;simp
theorem P7 (a b:List UInt8):(⟨(a++b).toArray⟩:ByteArray)=⟨a.toArray⟩++⟨b.toArray⟩:=(FE a b).symm
end Go.Proofs.YtpcleamaieaefaaGreatDoor
namespace Go.Proofs.YtpcleamaieaefaaGreatDoor
open Go.ChangeShapes Go.WideShapes Go.ChangeAt Go.RowKit Go.Deep
section
variable {H:Type} {enc:TypeId×Value→H} {P:Program} {w:World} {base:Nat} {spare:Nat→Bool} {held:Bool}
theorem Ms {fs:Array Field} {n:Nat} {cs:List Value} {xs:List (DataW H×List MemPlace)} (hone:oneCellFields P fs=true)
  (hf:∀(i:Nat) (f:Field),fs[i]? =some f→DataW.trod enc P w base spare held n f.type ((cs.drop f.offset).take (P.cellsOf f.type))=xs[i]?):
  ∀(i:Nat) (f:Field),fs[i]? =some f→DataW.trod enc P w base spare held n f.type ((cs.drop i).take 1)=xs[i]? :=by
 intro i f hi;obtain⟨ho,hk⟩:=hone_of hone i f hi;have:=hf i f hi;rwa[ho,hk]at this
end
theorem OZ (p:Pr):(prC p).length=4:=rfl
section
variable {H:Type} {enc:TypeId×Value→H} {w:World} {base:Nat} {spare:Nat→Bool} {held:Bool}
theorem Ns {n:Nat} {cs:List Value} {D:DataW H} {Pl:List MemPlace} (h:DataW.trod enc Tryz.prog w base spare held n 97 cs=some (D,Pl)) (hs:fu Tryz.prog 97 D):∃p,cs=prC p∧ea p:=by
 obtain⟨xs,n',rfl,hx,hlen,hxl,hf⟩:=Iy Tryz.underlying97 h;simp only[bG]at hx;obtain⟨rfl,rfl⟩:=hx;have hc4:Tryz.prog.cellsOf 97=4:=by kernel_rfl
 have hf':=Ms (by kernel_rfl) hf;rw[hc4]at hlen
 match cs,hlen with
 | [c0,c1,c2,c3],_=>
   match xs,hxl with
   | [y0,y1,y2,y3],_=>
     have h0:=hf' 0 _ rfl;have h1:=hf' 1 _ rfl;have h2:=hf' 2 _ rfl;have h3:=hf' 3 _ rfl;obtain⟨z0,e0,rfl,_⟩:=GB Tryz.underlying3 h0;obtain⟨z1,e1,rfl,w1⟩:=GB Tryz.underlying95 h1;obtain⟨z2,e2,rfl,_⟩:=GH Tryz.underlying9 h2;obtain⟨z3,e3,rfl,_⟩:=GH Tryz.underlying9 h3;simp only[cS,ji,GG,GZ,gY,Hj]at e0 e1 e2 e3;subst e0 e1 e2 e3;have hw:0≤z1∧z1<4294967296:=by
      simp[Lit.wf,IntKind.min,IntKind.max,IntKind.bits,IntKind.signed]at w1;omega
     refine⟨⟨z0,z1.toNat,z2,z3⟩,?_,by simp only;omega,?_,?_⟩
     ·simp only[prC];rw[show((z1.toNat:Nat):Int)=z1 by omega]
     ·have:=hs z2.data.toList.length (by simp[DataW.weights,DataW.weightsEach,Tryz.underlying97])
      simpa [reachBytes]using this
     ·have:=hs z3.data.toList.length (by simp[DataW.weights,DataW.weightsEach,Tryz.underlying97])
      simpa [reachBytes]using this
theorem Ki {fuel:Nat} {cs:List Value} {d:DataW H} {ps:List MemPlace} (h:DataW.trod enc Tryz.prog w base spare held fuel 23 cs=some (d,ps)) (hs:fu Tryz.prog 23 d) (hlt:∀x∈ps,x.block<w.heap.size):
  ∃(A:Option Addr) (l:List Pr) (c:Nat),cs=[.slice A l.length c]∧Rd w w.heap.size 4 A l.length (prs l)∧(∀p∈l,ea p)∧l.length≤2932031007317∧l.length≤c∧c≤maxLen:=by
 obtain⟨A,l,c,h1,h2,h3,h4,h5⟩:=rX prC OZ (by omega) Tryz.underlying23 (by kernel_rfl) ea (fun n cs D Pl h hs _=>Ns h hs) h hs hlt;refine⟨A,l,c,h1,h2,h3,?_,h5⟩;have hb:Tryz.prog.bytesOf 97=48:=by kernel_rfl
 rw[hb,reachBytes]at h4;omega
end
end Go.Proofs.YtpcleamaieaefaaGreatDoor
namespace Go.Proofs.YtpcleamaieaefaaGreatDoor
open Go.RowKit
def MU (kind:Int) (k:Nat):List Nat:=(List.range k).filter fun c=>may kind (c:Int)
def Qk (kind:Int):List Nat:=MU kind 256
theorem NP (kind:Int) (k:Nat):(MU kind k).length≤k:=by
 have:=List.length_filter_le (fun c:Nat=>may kind (c:Int)) (List.range k)
 simpa [MU]using this
theorem Ny (c:Int):tn oD c=false:=by simp[tn,oD]
theorem Nu {kind:Int} (h:¬(kind=2∨kind=4∨kind=5∨kind=6∨kind=7∨kind=9∨kind=11∨kind=14∨kind=15)) (c:Int):may kind c=false:=by
 have:codes kind=oD:=by
  unfold codes;rw[ae (by omega),ae (by omega),ae (by omega),ae (by omega),ae (by omega),ae (by omega),ae (by omega)]
 unfold may;rw[this,Ny]
theorem PP (kind a:Int):((Qk kind).any fun c=>((c:Int)==a))=may kind a:=by
 rw[eG,List.any_eq_true]
 constructor
 ·rintro ⟨c,hc,he⟩;have:(c:Int)=a:=by simpa using he
  subst this;exact by simpa using (List.mem_filter.1 hc).2
 ·intro h;have hr:=n6 h;refine⟨a.toNat,List.mem_filter.2 ⟨by simp;omega,?_⟩,by simp;omega⟩;rw[show((a.toNat:Nat):Int)=a by omega];exact h
theorem KQ {l:List Nat} {k:Nat} (h:k<l.length) (a:Int):((l.take (k+1)).any fun c=>((c:Int)==a))=(((l.take k).any fun c=>((c:Int)==a)) || ((l[k]:Int)==a)):=by
 rw[fE h,List.any_append];simp
theorem Mm (a:Nat) (k:Nat):FJ (List.range' a (k+1))=FJ (List.range' a k)++[.int .i64 ((a:Int)+k)]:=by
 rw[List.range'_concat];simp[FJ]
theorem JH (v:Value) (n:Nat) (xs:List Value) (a b:Int) (na k:Nat) (base:Nat) (w:World) (hown:w.ownsRow base 3 1 v n xs) (hbase:base≤w.heap.size) (hn:n≤1000) (ha:a=na) (hk:b+1=a+k) (hb:b<256):
  Calls Tryz.prog 330 #[v,.int .i64 a,.int .i64 b] w fun e w'=>∃v',e= .returned v'∧w'.ownsRow base 3 1 v' (n+k) (xs++FJ (List.range' na k))∧Below base w w':=by
 have HO:=aa hown;clear hown
 subst ha;have HK:=aa hk;clear hk
 go_enter Tryz.func330,Tryz.ntmps330
 go_wp2
 go_loopw [0,1] (fun v i wr=>∃j:Nat,j≤k∧i= .int .i64 ((na:Int)+j)∧wr.ownsRow base 3 1 v (n+j) (xs++FJ (List.range' na j))∧Below base w wr) (fun _ i _=>(b+1- intOf i).toNat)
 case atStart=>exact⟨0,by omega,by simp,by simpa using HO.out,aq _ _⟩
 case round=>
  obtain⟨j,hj,rfl,hown,hbel⟩:=hrel;have HO1:=aa hown;clear hown
  have hz:=hbel.size
  by_cases hlt:j<k
  ·have h1:(na:Int)+j≤b:=by have:=HK.out;omega
   have HR:=aa (Mm na j)
   go_wp2_with (at_builtin;go_loud (refine kF _ rfl (.tmp 12) (.tmp 14) 26 rfl base 3 (.int .i64 0) 1 8 Tryz.underlying26 Cw rfl (by decide) u0 _ _ rfl (HO1.out.alloc _) _ _ 1 1 [.int .i64 ((na:Int)+j)] rfl (Rd.lit _ _ _ rfl (ed _) rfl) (by intro u hu;simp at hu;subst hu;rfl) (by unfold maxLen;omega) (by omega) (by simp;omega) ?_);intro v' w3 hown3 hg3 hat3)
   have R:w3.ownsRow base 3 1 v' (n+(j+1)) (xs++FJ (List.range' na (j+1)))∧Below base w w3:=by
    refine⟨?_,kz (hbel.alloc (by omega) _) hg3 (by simp;omega) (fun g hg=>(cX HO1.out g hg).1)⟩;rw[HR.out,←List.append_assoc];exact hown3
   clear hown3 hg3 hat3
   go_wp2
   go_roundw
   case rel=>exact⟨j+1,by omega,by simp;omega,R.1,R.2⟩
   case measure=>have:=HK.out;simp[intOf];omega
  ·obtain rfl:j=k:=by omega
   have h1:b<(na:Int)+j:=by have:=HK.out;omega
   go_wp2
   go_ret
   exact⟨_,rfl,HO1.out,hbel⟩
def IA (kind:Int):List Nat:=
 if kind=2 then [0]++List.range' 128 11++[140,144,149,151]++List.range' 153 5++[159]
 else if kind=4∨kind=5 then [0,16,128,131,135,144,145,151,153]
 else if kind=6∨kind=7 then [0,146]
 else if kind=9 then [0,1,2,128,131,135,143,145,151,158,161,162]
 else if kind=11 then [0,17,128,131,135,143,145]
 else if kind=14 then [0,4]++List.range' 128 4++[135,137,139,141,142,143,144]++List.range' 147 16
 else if kind=15 then [0,24,25]
 else []
theorem KY (kind:Int):IA kind=Qk kind:=by
 by_cases hk:kind=2∨kind=4∨kind=5∨kind=6∨kind=7∨kind=9∨kind=11∨kind=14∨kind=15
 ·obtain rfl| rfl| rfl| rfl| rfl| rfl| rfl| rfl| rfl:=hk
  all_goals decide+kernel
 ·have h1:IA kind=[]:=by
   unfold IA;rw[ae (by omega),ae (by omega),ae (by omega),ae (by omega),ae (by omega),ae (by omega),ae (by omega)]
  rw[h1];unfold Qk MU;rw[eq_comm,List.filter_eq_nil_iff];intro c _;rw[Nu hk];simp
def Ho (kind:Int) (w:World) (e:Ending) (w':World):Prop:=
 ∃v,e= .returned v∧w'.ownsRow w.heap.size 3 1 v (IA kind).length (FJ (IA kind))∧Below w.heap.size w w'
theorem IR (w:World) (kind:Int) (l:List Nat) (h:IA kind=l) (cs:Array Value) (hcs:cs.toList=FJ l) (n:Nat) (hn:n=l.length) (hm:n≤1000):
  Ho kind w (.returned (.slice (some ⟨w.heap.size,0,none⟩) n n)) (w.alloc (.cells cs 3)):=by
 subst h hn;refine⟨_,rfl,?_,(aq _ _).alloc (ac _) _⟩;rw[←hcs];exact World.ownsRow_lit w cs _ (ac _) (by unfold maxLen;omega) (by have:=congrArg List.length hcs;simpa [FJ]using this)
theorem Oc (w:World):Calls Tryz.prog 292 #[.int .i64 4] w (Ho 4 w):=by
 go_enter Tryz.func292,Tryz.ntmps292
 go_wp2
 go_ret
 exact IR w 4 [0,16,128,131,135,144,145,151,153] (by decide) _ rfl _ rfl (by decide)
theorem Ob (w:World):Calls Tryz.prog 292 #[.int .i64 5] w (Ho 5 w):=by
 go_enter Tryz.func292,Tryz.ntmps292
 go_wp2
 go_ret
 exact IR w 5 [0,16,128,131,135,144,145,151,153] (by decide) _ rfl _ rfl (by decide)
theorem Oa (w:World):Calls Tryz.prog 292 #[.int .i64 6] w (Ho 6 w):=by
 go_enter Tryz.func292,Tryz.ntmps292
 go_wp2
 go_ret
 exact IR w 6 [0,146] (by decide) _ rfl _ rfl (by decide)
theorem NZ (w:World):Calls Tryz.prog 292 #[.int .i64 7] w (Ho 7 w):=by
 go_enter Tryz.func292,Tryz.ntmps292
 go_wp2
 go_ret
 exact IR w 7 [0,146] (by decide) _ rfl _ rfl (by decide)
theorem NY (w:World):Calls Tryz.prog 292 #[.int .i64 9] w (Ho 9 w):=by
 go_enter Tryz.func292,Tryz.ntmps292
 go_wp2
 go_ret
 exact IR w 9 [0,1,2,128,131,135,143,145,151,158,161,162] (by decide) _ rfl _ rfl (by decide)
theorem Ni (w:World):Calls Tryz.prog 292 #[.int .i64 11] w (Ho 11 w):=by
 go_enter Tryz.func292,Tryz.ntmps292
 go_wp2
 go_ret
 exact IR w 11 [0,17,128,131,135,143,145] (by decide) _ rfl _ rfl (by decide)
theorem Ng (w:World):Calls Tryz.prog 292 #[.int .i64 15] w (Ho 15 w):=by
 go_enter Tryz.func292,Tryz.ntmps292
 go_wp2
 go_ret
 exact IR w 15 [0,24,25] (by decide) _ rfl _ rfl (by decide)
theorem Od (w:World):Calls Tryz.prog 292 #[.int .i64 2] w (Ho 2 w):=by
 go_enter Tryz.func292,Tryz.ntmps292
 go_wp2_with fail
 refine(JH _ 1 (FJ [0]) 128 138 128 11 w.heap.size _ (World.ownsRow_lit w _ 1 (ac _) (by decide) rfl) (by simp) (by omega) rfl rfl (by omega)).mono ?_;rintro e w1 ⟨v1,rfl,hown1,hb1⟩;have hbel1:=((aq w.heap.size w).alloc (ac _) (.cells #[.int .i64 0] 3)).trans hb1;have hz1:=hbel1.size
 go_wp2_with (first| fail| (at_builtin;refine kF _ rfl (.tmp 10) (.tmp 11) 26 rfl w.heap.size 3 (.int .i64 0) 1 8 Tryz.underlying26 Cw rfl (by decide) v1 _ _ rfl (hown1.alloc _) _ _ 4 4 (FJ [140,144,149,151]) rfl (Rd.lit _ _ _ rfl (ed _) rfl) (Kr _) (by unfold maxLen;omega) (by omega) (by simp;omega) ?_;intro v2 w2 hown2 hg2 hat2))
 have hbel2:=kz (hbel1.alloc (by omega) _) hg2 (by simp;omega) (fun g hg=>(cX hown1 g hg).1);have hz2:=hbel2.size;clear hg2 hat2 hown1 hb1;refine(JH v2 _ _ 153 157 153 5 w.heap.size _ hown2 (by omega) (by omega) rfl rfl (by omega)).mono ?_;rintro e w3 ⟨v3,rfl,hown3,hb3⟩;have hbel3:=hbel2.trans hb3;have hz3:=hbel3.size;clear hown2 hb3
 go_wp2_with (first| fail| (at_builtin;refine kF _ rfl (.tmp 14) (.tmp 15) 26 rfl w.heap.size 3 (.int .i64 0) 1 8 Tryz.underlying26 Cw rfl (by decide) v3 _ _ rfl (hown3.alloc _) _ _ 1 1 (FJ [159]) rfl (Rd.lit _ _ _ rfl (ed _) rfl) (Kr _) (by unfold maxLen;omega) (by omega) (by simp;omega) ?_;intro v4 w4 hown4 hg4 hat4))
 have hbel4:=kz (hbel3.alloc (by omega) _) hg4 (by simp;omega) (fun g hg=>(cX hown3 g hg).1);clear hg4 hat4 hown3
 go_wp2
 go_ret
 exact⟨_,rfl,hown4,hbel4⟩
theorem Nh (w:World):Calls Tryz.prog 292 #[.int .i64 14] w (Ho 14 w):=by
 go_enter Tryz.func292,Tryz.ntmps292
 go_wp2_with fail
 refine(JH _ 2 (FJ [0,4]) 128 131 128 4 w.heap.size _ (World.ownsRow_lit w _ 2 (ac _) (by decide) rfl) (by simp) (by omega) rfl rfl (by omega)).mono ?_;rintro e w1 ⟨v1,rfl,hown1,hb1⟩;have hbel1:=((aq w.heap.size w).alloc (ac _) (.cells #[.int .i64 0,.int .i64 4] 3)).trans hb1;have hz1:=hbel1.size
 go_wp2_with (first| fail| (at_builtin;refine kF _ rfl (.tmp 35) (.tmp 36) 26 rfl w.heap.size 3 (.int .i64 0) 1 8 Tryz.underlying26 Cw rfl (by decide) v1 _ _ rfl (hown1.alloc _) _ _ 7 7 (FJ [135,137,139,141,142,143,144]) rfl (Rd.lit _ _ _ rfl (ed _) rfl) (Kr _) (by unfold maxLen;omega) (by omega) (by simp;omega) ?_;intro v2 w2 hown2 hg2 hat2))
 have hbel2:=kz (hbel1.alloc (by omega) _) hg2 (by simp;omega) (fun g hg=>(cX hown1 g hg).1);have hz2:=hbel2.size;clear hg2 hat2 hown1 hb1;refine(JH v2 _ _ 147 162 147 16 w.heap.size _ hown2 (by omega) (by omega) rfl rfl (by omega)).mono ?_;rintro e w3 ⟨v3,rfl,hown3,hb3⟩;have hbel3:=hbel2.trans hb3;clear hown2 hb3
 go_wp2
 go_ret
 exact⟨_,rfl,hown3,hbel3⟩
theorem Ml (kind:Int) (w:World):Calls Tryz.prog 292 #[.int .i64 kind] w (Ho kind w):=by
 by_cases h2:kind=2
 ·subst h2;exact Od w
 by_cases h4:kind=4
 ·subst h4;exact Oc w
 by_cases h5:kind=5
 ·subst h5;exact Ob w
 by_cases h6:kind=6
 ·subst h6;exact Oa w
 by_cases h7:kind=7
 ·subst h7;exact NZ w
 by_cases h9:kind=9
 ·subst h9;exact NY w
 by_cases h11:kind=11
 ·subst h11;exact Ni w
 by_cases h14:kind=14
 ·subst h14;exact Nh w
 by_cases h15:kind=15
 ·subst h15;exact Ng w
 have HR:Hid (IA kind=[]):=by
  show _=_;unfold IA;rw[ae (by omega),ae (by omega),ae (by omega),ae (by omega),ae (by omega),ae (by omega),ae (by omega)]
 go_enter Tryz.func292,Tryz.ntmps292
 go_wp2
 go_ret
 refine⟨_,rfl,?_,aq _ _⟩;rw[HR.out];exact dD _ _ _ _
theorem Ht (kind c:Int) (w:World):
  Calls Tryz.prog 231 #[.int .i64 kind,.int .i64 c] w fun e w'=>e= .returned (.bool (may kind c))∧Below w.heap.size w w':=by
 have hmem:=PP kind c;rw[←KY]at hmem;have HM:=aa hmem;clear hmem
 go_enter Tryz.func231,Tryz.ntmps231
 go_wp2_with fail
 refine(Ml _ _).mono ?_;rintro e w1 ⟨v,rfl,hown,hb1⟩;obtain⟨A,cp,rfl,hc,hrd⟩:=jK hown;have hn:(IA kind).length≤256:=by rw[KY];exact NP kind 256
 clear hown;have hs1:=hb1.size;generalize IA kind=l at*
 go_wp2
 go_loopw [6] (fun i wr=>∃k:Nat,k≤l.length∧i= .int .i64 k∧(((l.take k).any fun x=>((x:Int)==c))=false)∧Below w1.heap.size w1 wr) (fun i _=>l.length- (intOf i).toNat)
 case atStart=>exact⟨0,by omega,rfl,rfl,aq _ _⟩
 case round=>
  obtain⟨k,hk,rfl,hno,hb⟩:=hrel;have HN:=aa hno;clear hno
  have hbel:Below w.heap.size w wr:=hb1.trans (hb.mono hs1)
  by_cases hlt:k<l.length
  ·obtain⟨bA,oA,u,rfl,hadb,hu,hcell⟩:=(hrd.below hb).at1 hlt;have hu':u= .int .i64 (l[k]:Nat):=by simpa [hlt]using hu.symm
   subst hu';have HS:=aa (KQ hlt c);have HG:Hid (l[k]∈l):=iY hlt;generalize l[k]=z at*;clear hu hrd;cases hz:((z:Int)==c)with
   | true=>
     have hfin:may kind c=true:=by
      rw[←HM.out];exact List.any_eq_true.2 ⟨z,HG.out,hz⟩
     have HF:=aa hfin;clear hfin
     go_wp2
     go_ret
     exact⟨by rw[HF.out];rfl,hbel⟩
   | false=>
     have HZ:=aa hz
     go_wp2
     go_roundw
     case rel=>exact⟨k+1,by omega,by go_num,by rw[HS.out,HN.out,HZ.out];rfl,hb⟩
     case measure=>simp[intOf];omega
  ·obtain rfl:k=l.length:=by omega
   have hfin:may kind c=false:=by rw[←HM.out];have:=HN.out;rwa[GK]at this
   have HF:=aa hfin;clear hfin
   go_wp2
   go_ret
   exact⟨by rw[HF.out];rfl,hbel⟩
theorem KD (c:Int) (w:World):
  Calls Tryz.prog 281 #[.int .i64 c] w fun e w'=>e= .returned (.bool (ww c))∧w=w':=by
 go_enter Tryz.func281,Tryz.ntmps281
 go_wp2
 all_goals
  go_ret
  refine⟨?_,rfl⟩
  (try simp[ww])<;>omega
theorem Lq (c:Int) (w:World):
  Calls Tryz.prog 291 #[.int .i64 c] w fun e w'=>e= .returned (.bool (tq c))∧w=w':=by
 go_enter Tryz.func291,Tryz.ntmps291
 go_wp2
 all_goals
  go_ret
  simp_all[tq]
end Go.Proofs.YtpcleamaieaefaaGreatDoor
namespace Go.Proofs.YtpcleamaieaefaaGreatDoor
open Go.RowKit
attribute [local go_sem ↓] bD bF bH bI bu
attribute [local go_sem] bc aD bh bg bK bJ bd aY be aO ax cI dC dB dt dj di dA dr dp dn bW co bO bZ bX cz cy cw cu ct cC cn bS bP bR
def ft (l:List Fi):Nat:=(l.map fun f=>f.topic.size).sum
theorem PJ (l:List Fi) (k:Nat) (h:k<l.length):ft (l.take (k+1))=ft (l.take k)+l[k].topic.size:=by
 unfold ft;rw[fE h,Ii,List.sum_append];simp only[fI,gC,List.sum_cons,List.sum_nil];omega
theorem PU:∀(l:List Fi),(∀f∈l,f.topic.size≤140737488351232)→ft l≤l.length*140737488351232
 | [],_=>by simp[ft]
 | p :: l,h=>by
   have h1:=PU l (fun q hq=>h q (kV _ hq));have h2:=h p (by simp);simp[ft]at h1⊢;omega
def szK (p:Pk):Nat:=p.topic.size+p.payload.size+p.client.size+p.user.size+p.pass.size+p.will.topic.size+p.will.payload.size
def Ie (p:Pk):Bool:=Ig p.props&&(Ig p.will.props&&(decide (p.codes.length≤60)&&(decide (p.filters.length≤60)&&decide (szK p+ft p.filters≤140000))))
theorem Mw (p:Pk) (h:Hs) (w:World) (ip:PkIn w w.heap.size p h) (ok:PkOk p):
  Calls Tryz.prog 19 #[pkV p h] w fun e w'=>e= .returned (.bool (Ie p))∧Below w.heap.size w w':=by
 have IP:=aa ip;have OK:=aa ok;clear ip ok
 have HB:=aa ((aq w.heap.size w).alloc (ac _) (.cells (pkC p h) PkT));have HK:=aa (Bk.fresh w PkT (pkC p h));have HE:Hid (Ie p=(Ig p.props&&(Ig p.will.props&&(decide (p.codes.length≤60)&&(decide (p.filters.length≤60)&&decide (szK p+ft p.filters≤140000)))))):=aa rfl
 go_enter Tryz.func19,Tryz.ntmps19
 go_wp2_with fail
 refine(Kq p.props h.props.a h.props.c _ ((IP.out.below HB.out).wider HB.out.size).props OK.out.len.2.2.2 (Jm OK.out.props)).mono ?_;rintro e w1 ⟨rfl,hb⟩;have HB1:=aa (HB.out.trans (hb.mono HB.out.size));have HK1:=aa (HK.out.below hb HK.out.lt)
 clear hb;have k1:=fun i=>HK1.out.cell i;cases h1:Ig p.props
 ·have HX:Hid (Ie p=false):=aa (by rw[HE.out,h1];rfl);clear h1
  go_wp2
  go_ret
  exact⟨by(rw[HX.out];first| done| rfl),HB1.out⟩
 have HE1:=aa (HE.out.trans (by rw[h1,aL]));clear h1
 go_wp2_with fail
 refine(Kq p.will.props h.wp.a h.wp.c _ ((IP.out.below HB1.out).wider HB1.out.size).wp OK.out.len.1 (Jm OK.out.wp)).mono ?_;rintro e w2 ⟨rfl,hb⟩;have HB2:=aa (HB1.out.trans (hb.mono HB1.out.size));have HK2:=aa (HK1.out.below hb HK1.out.lt)
 clear hb k1;have k2:=fun i=>HK2.out.cell i;cases h2:Ig p.will.props
 ·have HX:Hid (Ie p=false):=aa (by rw[HE1.out,h2];rfl);clear h2
  go_wp2
  go_ret
  exact⟨by(rw[HX.out];first| done| rfl),HB2.out⟩
 have HE2:=aa (HE1.out.trans (by rw[h2,aL]));clear h2
 by_cases h3:p.codes.length≤60
 rotate_left
 ·have HX:Hid (Ie p=false):=aa (by rw[HE2.out,ah h3];rfl);have d3:(60:Int)<(p.codes.length:Int):=by omega
  clear h3
  go_wp2
  go_ret
  exact⟨by(rw[HX.out];first| done| rfl),HB2.out⟩
 have d3:(p.codes.length:Int)≤60:=by omega
 have HE3:=aa (HE2.out.trans (by rw[au h3,aL]));clear h3
 by_cases h4:p.filters.length≤60
 rotate_left
 ·have HX:Hid (Ie p=false):=aa (by rw[HE3.out,ah h4];rfl);have d4:(60:Int)<(p.filters.length:Int):=by omega
  clear h4
  go_wp2
  go_ret
  exact⟨by(rw[HX.out];first| done| rfl),HB2.out⟩
 have d4:(p.filters.length:Int)≤60:=by omega
 have HE4:=aa (HE3.out.trans (by rw[au h4,aL]));have H4:=aa h4;clear h4;obtain⟨x1,x2,x3,x4,x5,x6,x7⟩:=OK.out.texts;have s1:IntKind.i64.wrap ((p.topic.size:Int)+(p.payload.size:Int))=(p.topic.size:Int)+(p.payload.size:Int):=by rw[aQ];omega
 have s2:IntKind.i64.wrap ((p.topic.size:Int)+(p.payload.size:Int)+(p.client.size:Int))=(p.topic.size:Int)+(p.payload.size:Int)+(p.client.size:Int):=by rw[aQ];omega
 have s3:IntKind.i64.wrap ((p.topic.size:Int)+(p.payload.size:Int)+(p.client.size:Int)+(p.user.size:Int))=(p.topic.size:Int)+(p.payload.size:Int)+(p.client.size:Int)+(p.user.size:Int):=by rw[aQ];omega
 have s4:IntKind.i64.wrap ((p.topic.size:Int)+(p.payload.size:Int)+(p.client.size:Int)+(p.user.size:Int)+(p.pass.size:Int))=(p.topic.size:Int)+(p.payload.size:Int)+(p.client.size:Int)+(p.user.size:Int)+(p.pass.size:Int):=by rw[aQ];omega
 have s5:IntKind.i64.wrap ((p.topic.size:Int)+(p.payload.size:Int)+(p.client.size:Int)+(p.user.size:Int)+(p.pass.size:Int)+(p.will.topic.size:Int))=(p.topic.size:Int)+(p.payload.size:Int)+(p.client.size:Int)+(p.user.size:Int)+(p.pass.size:Int)+(p.will.topic.size:Int):=by rw[aQ];omega
 have s6:IntKind.i64.wrap ((p.topic.size:Int)+(p.payload.size:Int)+(p.client.size:Int)+(p.user.size:Int)+(p.pass.size:Int)+(p.will.topic.size:Int)+(p.will.payload.size:Int))=(p.topic.size:Int)+(p.payload.size:Int)+(p.client.size:Int)+(p.user.size:Int)+(p.pass.size:Int)+(p.will.topic.size:Int)+(p.will.payload.size:Int):=by rw[aQ];omega
 have HS:Hid ((p.topic.size:Int)+(p.payload.size:Int)+(p.client.size:Int)+(p.user.size:Int)+(p.pass.size:Int)+(p.will.topic.size:Int)+(p.will.payload.size:Int)=((szK p:Nat):Int)):=aa (by unfold szK;omega);have HSL:Hid (szK p≤985162418458624):=aa (by unfold szK;omega)
 go_wp2
 go_loopw [3,4] (fun n i wr=>∃k:Nat,k≤p.filters.length∧i= .int .i64 k∧n= .int .i64 ((szK p:Int)+(ft (p.filters.take k):Int))∧Below w2.heap.size w2 wr) (fun _ i _=>p.filters.length- (intOf i).toNat)
 case atStart=>exact⟨0,by omega,rfl,by rw[HS.out];simp[ft],aq _ _⟩
 case round=>
  obtain⟨k,hk,rfl,rfl,hbel⟩:=hrel;have HB3:=aa (HB2.out.trans (hbel.mono HB2.out.size));have HK3:=aa (HK2.out.below hbel HK2.out.lt)
  clear k2;have k3:=fun i=>HK3.out.cell i
  by_cases hlt:k<p.filters.length
  ·obtain⟨b,o,hA,hb,c0,c1,c2,c3,c4⟩:=((IP.out.below HB3.out).filters).atF hlt;have h2:=OK.out.topics p.filters[k] (iY hlt);have h3:=PU (p.filters.take k) (fun f hf=>OK.out.topics f (IU hf));rw[cY]at h3;have h3':ft (p.filters.take k)≤8444249301073920:=by have:=H4.out;omega
   have h5:=HSL.out;have HW:=aa (PJ p.filters k hlt);clear h3 c1 c2 c3 c4;generalize ft (p.filters.take k)=q at*;generalize p.filters[k]=f at*;have w1:IntKind.i64.wrap ((szK p:Int)+(q:Int)+(f.topic.size:Int))=(szK p:Int)+(q:Int)+(f.topic.size:Int):=by rw[aQ];omega
   have b1:(0:Int)≤(k:Int):=by omega
   have b2:(k:Int)<(p.filters.length:Int):=by omega
   go_wp2
   go_roundw
   case rel=>exact⟨k+1,by omega,by go_num,by rw[HW.out];go_num,hbel⟩
   case measure=>simp[intOf];omega
  ·obtain rfl:k=p.filters.length:=by omega
   go_wp2
   go_ret
   exact⟨by rw[HE4.out,GK];congr 2;simp;omega,HB3.out⟩
end Go.Proofs.YtpcleamaieaefaaGreatDoor
namespace Go.Proofs.YtpcleamaieaefaaGreatDoor
open Go.RowKit
theorem Jd (n:Nat) (h:n<256):es (da n 1)=n:=by
 simp[es,da,List.range_succ,UInt8.toNat_ofNat'];omega
theorem H7 (n:Nat) (h:n<65536):es (da n 2)=n:=by
 simp[es,da,List.range_succ,UInt8.toNat_ofNat'];omega
theorem Oy (n:Nat) (h:n<4294967296):es (da n 4)=n:=by
 simp[es,da,List.range_succ,UInt8.toNat_ofNat'];omega
theorem Hz {t:ByteArray} {a:Nat} {x rest:List UInt8} (h:(ls t).drop a=x++rest) (ha:a≤t.size):bp t a 0 (x.length:Nat)=(⟨x.toArray⟩,a+x.length,0):=by
 have hl:a+x.length≤t.size:=by
  have:=congrArg List.length h;rw[bU,List.length_append,aN]at this;omega
 rw[sd hl];refine Prod.ext ?_ rfl;apply eX;rw[db,h,jo];simp
theorem Iw {t:ByteArray} {a:Nat} {x rest:List UInt8} (h:(ls t).drop a=x++rest):(ls t).drop (a+x.length)=rest:=by
 rw[←et,h];simp
theorem JQ {t:ByteArray} {a:Nat} {s:ByteArray} {rest:List UInt8} (h:(ls t).drop a=ls (cQ s)++rest) (ha:a≤t.size) (hs:s.size≤65535):dH t a 0=(s,a+2+s.size,0):=by
 rw[si,List.append_assoc]at h;have h1:=Hz h ha;rw[fM]at h1;have h2:=Iw h;rw[fM]at h2;have hl:a+2≤t.size:=by
  have:=congrArg List.length h;rw[bU,List.length_append,aN,fM]at this;omega
 unfold dH;rw[show((2:Int))=((2:Nat):Int)from rfl,h1];simp only[jo];rw[H7 _ (by omega)];have h3:=Hz h2 hl;rw[aN]at h3;rw[h3];simp[Ck]
theorem Kt {s:ByteArray} (h:s.toList.isEmpty=true):s=⟨#[]⟩:=by
 have h0:=mL h;apply eX;have:(ls s).length=0:=by rw[aN];exact h0
 rw[aF this];rfl
theorem Kw {kind:Int} {p:Pr} (h:de (cr p.id) kind p=0):ng (cr p.id) kind=true∧(gH p.id≤4→p.text=⟨#[]⟩∧p.value=⟨#[]⟩)∧(gH p.id=1→p.n<256)∧(gH p.id=2→p.n<65536)∧
  (5≤gH p.id→p.n=0)∧(5≤gH p.id→gH p.id≠7→p.value=⟨#[]⟩)∧(5≤gH p.id→gH p.id≠6→bN p.text=true∧bN p.value=true):=by
 have hh:ng (cr p.id) kind=true:=by
  cases hb:ng (cr p.id) kind
  ·unfold de at h;rw[hb]at h;simp at h
  ·rfl
 have hq:∃q∈dQ,(q.1:Int)=p.id∧cr p.id=q.2:=by
  have hh':=hh;unfold cr at hh'⊢;cases hf:dQ.find? fun q=>(q.1:Int)==p.id with
  | none=>rw[hf]at hh';simp[ng]at hh'
  | some q=>exact⟨q,jc hf,by simpa using List.find?_some hf,rfl⟩
 obtain⟨q,hm,hid,hr⟩:=hq;have ht:∀q∈dQ,(q.2.shape=1→q.2.most<256)∧(q.2.shape=2→q.2.most<65536):=by decide
 obtain⟨h1,h2⟩:=ht q hm;refine⟨hh,?_⟩;unfold de at h;rw[hh]at h;unfold gH;rw[hr]at h⊢;simp only[Bool.true_eq_false,if_false]at h
 by_cases h4:q.2.shape≤4
 ·rw[if_pos h4]at h;unfold zK at h
  split at h
  ·exact absurd h (by decide)
  ·rename_i hte
   split at h
   ·exact absurd h (by decide)
   ·rename_i hmm;have e1:p.text.toList.isEmpty=true:=by
     cases hb:p.text.toList.isEmpty
     ·exact absurd (.inl hb) hte
     ·rfl
    have e2:p.value.toList.isEmpty=true:=by
     cases hb:p.value.toList.isEmpty
     ·exact absurd (.inr hb) hte
     ·rfl
    exact⟨fun _=>⟨Kt e1,Kt e2⟩,fun hs=>by have:=h1 hs;omega,fun hs=>by have:=h2 hs;omega,fun hs=>by omega,fun hs=>by omega,fun hs=>by omega⟩
 ·rw[ae h4]at h
  split at h
  ·exact absurd h (by decide)
  ·rename_i hnv;have hn:p.n=0:=by
    rcases dh p.n with h0| h0
    ·exact h0
    ·exact absurd (.inl (by omega)) hnv
   have hv7:q.2.shape≠7→p.value=⟨#[]⟩:=fun h7=>by
    apply Kt;cases hb:p.value.toList.isEmpty
    ·exact absurd (.inr ⟨hb,h7⟩) hnv
    ·rfl
   refine⟨fun hs=>absurd hs h4,fun hs=>by omega,fun hs=>by omega,fun _=>hn,fun _=>hv7,fun _ h6=>?_⟩;rw[ae h6]at h
   split at h
   ·exact absurd h (by decide)
   ·rename_i hval
    constructor
    ·cases hb:bN p.text
     ·exact absurd (.inl hb) hval
     ·rfl
    ·cases hb:bN p.value
     ·exact absurd (.inr hb) hval
     ·rfl
theorem Ja {t:ByteArray} {a:Nat} {s:ByteArray} {rest:List UInt8} (h:(ls t).drop a=ls (cQ s)++rest) (ha:a≤t.size) (hs:s.size≤65535) (hv:bN s=true):dd t a 0=(s,a+2+s.size,0):=by
 unfold dd;rw[JQ h ha hs];simp[hv]
theorem Mc {kind:Int} {p:Pr} {t:ByteArray} {a:Nat} {rest:List UInt8} (hc:de (cr p.id) kind p=0) (hn:p.n<4294967296) (h:(ls t).drop a=ls (kc (gH p.id) p)++rest) (ha:a≤t.size):
  dW (gH p.id) t a=⟨p.n,p.text,p.value,a+(kc (gH p.id) p).size,0⟩:=by
 obtain⟨_,k1,k7,k4,kt,kv⟩:=nr hc;obtain⟨_,e4,en1,en2,en,ev,eva⟩:=Kw hc;have hcase:gH p.id=1∨gH p.id=2∨gH p.id=3∨gH p.id=4∨gH p.id=5∨gH p.id=6∨gH p.id=7:=by omega
 have hz:∀k:Nat,(⟨(da p.n k).toArray⟩:ByteArray).size=k:=fun k=>by show(da p.n k).toArray.size=k;simp[fM]
 rcases hcase with hs| hs| hs| hs| hs| hs| hs<;>rw[hs]at h e4 en1 en2 en ev eva k4 kt kv⊢
 ·have ev1:kc 1 p=⟨(da p.n 1).toArray⟩:=rfl;rw[ev1]at h⊢;rw[jo (da p.n 1)]at h;have h1:=Hz h ha;rw[fM]at h1;obtain⟨t1,t2⟩:=e4 (by omega);rw[hz,t1,t2];unfold dW;rw[if_pos rfl,show(1:Int)=((1:Nat):Int)from rfl,h1];simp only[jo];rw[Jd _ (en1 rfl)]
 ·have ev1:kc 2 p=⟨(da p.n 2).toArray⟩:=rfl;rw[ev1]at h⊢;rw[jo (da p.n 2)]at h;have h1:=Hz h ha;rw[fM]at h1;obtain⟨t1,t2⟩:=e4 (by omega);rw[hz,t1,t2];unfold dW;rw[ae (by omega),if_pos rfl,show(2:Int)=((2:Nat):Int)from rfl,h1];simp only[jo];rw[H7 _ (en2 rfl)]
 ·have ev1:kc 3 p=⟨(da p.n 4).toArray⟩:=rfl;rw[ev1]at h⊢;rw[jo (da p.n 4)]at h;have h1:=Hz h ha;rw[fM]at h1;obtain⟨t1,t2⟩:=e4 (by omega);rw[hz,t1,t2];unfold dW;rw[ae (by omega),ae (by omega),if_pos rfl,show(4:Int)=((4:Nat):Int)from rfl,h1];simp only[jo];rw[Oy _ hn]
 ·have ev1:kc 4 p=⟨(eP p.n).toArray⟩:=rfl;rw[ev1]at h⊢;rw[jo (eP p.n)]at h;obtain⟨t1,t2⟩:=e4 (by omega);have hsz:(⟨(eP p.n).toArray⟩:ByteArray).size=(eP p.n).length:=by show(eP p.n).toArray.size=_;simp
  rw[hsz,t1,t2];unfold dW;rw[ae (by omega),ae (by omega),ae (by omega),if_pos rfl];unfold mz;rw[h,wz _ (k4 rfl)];rfl
 ·have ev1:kc 5 p=cQ p.text:=rfl;rw[ev1]at h⊢;have h1:=Ja h ha (kt (by omega)) (eva (by omega) (by omega)).1;rw[eN,en (by omega),ev (by omega) (by omega)];unfold dW;rw[ae (by omega),ae (by omega),ae (by omega),ae (by omega),if_pos rfl,h1];simp only[VRead.mk.injEq,true_and,Hj];omega
 ·have ev1:kc 6 p=cQ p.text:=rfl;rw[ev1]at h⊢;have h1:=JQ h ha (kt (by omega));rw[eN,en (by omega),ev (by omega) (by omega)];unfold dW;rw[ae (by omega),ae (by omega),ae (by omega),ae (by omega),ae (by omega),if_pos rfl,h1];simp only[VRead.mk.injEq,true_and,Hj];omega
 ·have ev1:kc 7 p=cQ p.text++cQ p.value:=rfl;rw[ev1]at h⊢;have hl:ls (cQ p.text++cQ p.value)=ls (cQ p.text)++ls (cQ p.value):=by unfold ls;rw[ByteArray.data_append];simp
  rw[hl,List.append_assoc]at h;obtain⟨v1,v2⟩:=eva (by omega) (by omega);have h1:=Ja h ha (kt (by omega)) v1;have h2:=Iw h;rw[aN,eN]at h2;have ha2:a+(p.text.size+2)≤t.size:=by
   have:=congrArg List.length h;rw[bU,List.length_append,aN,aN,eN]at this;omega
  have h3:=Ja h2 ha2 (kv (by omega)) v2;rw[cK,eN,eN,en (by omega)];unfold dW;rw[ae (by omega),ae (by omega),ae (by omega),ae (by omega),ae (by omega),ae (by omega)];unfold jJ;rw[h1];simp only;rw[show a+2+p.text.size=a+(p.text.size+2) by omega,h3];simp only[VRead.mk.injEq,true_and,Hj];omega
theorem Qh {kind:Int} {p:Pr} (h:de (cr p.id) kind p=0):((UInt8.ofNat p.id.toNat).toNat:Nat)=p.id.toNat∧((p.id.toNat:Nat):Int)=p.id:=by
 have:=(nr h).1;rw[UInt8.toNat_ofNat'];omega
theorem Ko (kind:Int) (t:ByteArray):∀(l:List Pr) (m a:Nat) (f:Nat→Nat) (out:List Pr) (rest:List UInt8),(ls t).drop a=l.flatMap jI++rest→a≤t.size→t.size<a+m→ckL kind l→oK kind f l→out.length+l.length≤1000→(∀p∈l,p.n<4294967296)→
  ∃m' a' f',iy kind t m a f out=iy kind t m' a' f' (out++l)∧(ls t).drop a'=rest∧a'≤t.size∧t.size<a'+m'∧(∀k,f' k=f k+cnt k l)
 | [],m,a,f,out,rest,h,ha,hm,_,_,_,_=>⟨m,a,f,by simp,by simpa using h,ha,hm,fun k=>by simp[cnt]⟩
 | p :: l,m,a,f,out,rest,h,ha,hm,hc,ho,hl,hn=>by
   have hcp:=hc p (by simp);have hnp:=hn p (by simp);obtain⟨i1,i2⟩:=Qh hcp;rw[cF,List.append_assoc]at h;have h':(ls t).drop a=UInt8.ofNat p.id.toNat :: (ls (kc (gH p.id) p)++(l.flatMap jI++rest)):=h;obtain⟨e1,e2,e3⟩:=xd h';rw[i1]at e1;have hv:=Mc hcp hnp e3 e2;have ha':a+1+(kc (gH p.id) p).size≤t.size:=by
    have:=congrArg List.length e3;rw[bU,List.length_append,aN,aN]at this;omega
   have hd:=Iw e3;rw[aN]at hd;have hag:¬(1≤f p.id.toNat∧gS kind p.id.toNat=false):=fun hx=>by
    have:=ho p (by simp) hx.2;rw[lJ]at this;simp at this;omega
   have hagB:¬iC f kind p.id.toNat=true:=fun x=>hag ((kU _ _ _).1 x);obtain⟨m0,rfl⟩:∃m0,m=m0+1:=⟨m- 1,by omega⟩;have hstep:iy kind t (m0+1) a f out=iy kind t m0 (a+1+(kc (gH p.id) p).size) (upd f p.id.toNat (f p.id.toNat+1)) (out++[p]):=by
    rw[iy,ae (by omega),e1,i2];have hs:(cr p.id).shape=gH p.id:=rfl;rw[hs,hv,ae (by rw[(Kw hcp).1];decide)];simp only;have hpp:(⟨p.id,p.n,p.text,p.value⟩:Pr)=p:=rfl;rw[hpp,ae (by decide),ae (by rw[hcp];decide),ae hagB,ae (by rw[bM]at hl;omega)]
   obtain⟨m',a',f',r1,r2,r3,r4,r5⟩:=Ko kind t l m0 (a+1+(kc (gH p.id) p).size) (upd f p.id.toNat (f p.id.toNat+1)) (out++[p]) rest hd ha' (by omega) (fun q hq=>hc q (kV _ hq)) ((rZ kind f p l hag).2 ho) (by rw[List.length_append];simp at hl⊢;omega) (fun q hq=>hn q (kV _ hq));refine⟨m',a',f',?_,r2,r3,r4,fun k=>?_⟩
   ·rw[hstep,r1];simp
   ·rw[r5,lJ];unfold upd
    by_cases hk:k=p.id.toNat
    ·subst hk;simp;omega
    ·rw[ae hk,ae (fun x=>hk x.symm)];rfl
theorem LX {kind:Int} {t:ByteArray} {l:List Pr} (h:ls t=l.flatMap jI) (hok:okL kind l) (hl:l.length≤1000) (hn:∀p∈l,p.n<4294967296):fq kind t=(l,0):=by
 rw[yz]at hok;obtain⟨h1,h2,h3⟩:=hok;obtain⟨m',a',f',r1,r2,r3,r4,r5⟩:=Ko kind t l (t.size+1) 0 (fun _=>0) [] [] (by simpa using h) (by omega) (by omega) h1 h2 (by simpa using hl) hn;unfold fq;rw[r1];have hend:t.size≤a':=by
  have:=congrArg List.length r2;rw[bU,aN]at this;simp at this;omega
 obtain⟨m0,rfl⟩:∃m0,m'=m0+1:=⟨m'- 1,by omega⟩;rw[iy,if_pos hend];have hf:f'=fun k=>0+cnt k l:=funext r5;rw[hf,h3];simp
theorem Jb {kind:Int} {l:List Pr} (hok:(aM kind l).2=0) (hn:∀p∈l,p.n<4294967296) {s:ByteArray} {rest:List UInt8} (hs:ls s=(aM kind l).1++rest):aZ kind s=(l,(aM kind l).1.length,0):=by
 obtain⟨h1,h2⟩:=(sx kind l).1 hok;have hb:=tE kind l hok;have hz:=(G6 kind l hok).1;rw[hb]at hs⊢;simp only at hs⊢;have hr:bm (ls s)=((l.flatMap jI).length,(eP (l.flatMap jI).length).length,0):=by
  rw[hs,List.append_assoc];exact wz _ (by omega) _
 have hlen:s.size=(eP (l.flatMap jI).length).length+(l.flatMap jI).length+rest.length:=by
  rw[←aN,hs];simp only[List.length_append]
 unfold aZ;rw[hr];simp only;have hx:ls (s.extract (eP (l.flatMap jI).length).length ((eP (l.flatMap jI).length).length+(l.flatMap jI).length))=l.flatMap jI:=by
  rw[db,hs,List.append_assoc];simp
 rw[ae (by decide),ae (by omega),LX hx h2 h1 hn];simp
end Go.Proofs.YtpcleamaieaefaaGreatDoor
namespace Go.Proofs.YtpcleamaieaefaaGreatDoor
open Go.RowKit
attribute [local go_sem ↓] bD bF bH bI bu
attribute [local go_sem] bc aD bh bg bK bJ bd aY be aO ax cI dC dB dt dj di dA dr dp dn bW co bO bZ bX cz cy cw cu ct cC cn bS bP bR
def IM (s:ByteArray):ByteArray×Int:=if bN s=true then(cQ s,0)else(⟨#[]⟩,6)
end Go.Proofs.YtpcleamaieaefaaGreatDoor
namespace Go.Proofs.YtpcleamaieaefaaGreatDoor
open Go.RowKit
theorem MI {k:Int} {l:List Pr} (h:(aM k l).2=0):0<(aM k l).1.length:=by
 rw[tE k l h,List.length_append];have:0<(eP (l.flatMap jI).length).length:=by
  unfold eP ig
  split<;>simp
 omega
theorem JU {k code:Int} {l:List Pr} {t:ByteArray} {a:Nat} (h:(ls t).drop a=oG k code l) (ha:a≤t.size) (h0:0≤code) (h1:code<256) (hb:(aM k l).2=0) (hn:∀p∈l,p.n<4294967296):
  dg k t a=(code,l,t.size,0):=by
 have hl:=congrArg List.length h;rw[bU,aN]at hl;unfold oG at h hl
 by_cases hz:code=0∧l.length=0
 ·rw[if_pos hz]at h hl;have he:t.size≤a:=by simp at hl;omega
  unfold dg;rw[if_pos he,aF hz.2,hz.1,show a=t.size by omega]
 ·rw[ae hz]at h hl;rw[List.length_append,fM]at hl;have hc:br t a 0 1=code.toNat:=by
   have:=sc (k:=1) h (fM _ _) ha;rw[show((1:Nat):Int)=1 from rfl]at this;rw[this,Jd _ (by omega)]
  unfold dg;rw[ae (by omega),hc]
  by_cases hp:l.length=0
  ·rw[if_pos hp]at hl;have:l=[]:=aF hp;subst this;rw[if_pos (by simp at hl;omega),ae (by intro x;exact hz ⟨by omega,rfl⟩),show((code.toNat:Nat):Int)=code by omega,show a+1=t.size by simp at hl;omega]
  ·rw[ae hp]at h hl;have h2:=MI hb;rw[ae (by omega)];have hd:ls (t.extract (a+1) t.size)=(aM k l).1++[]:=by
    rw[ju,←fM code.toNat 1,Iw (t:=t) (a:=a) h,cW]
   rw[Jb hb hn hd];simp only;rw[ae (by decide),ae hp,show((code.toNat:Nat):Int)=code by omega,show a+1+(aM k l).1.length=t.size by omega]
theorem MJ {v:Int} {p:Pk} (g:AckGood v p) (hn:∀q∈p.props,q.n<4294967296) {s:ByteArray} (hs:ls s=da p.id.toNat 2++Fa p):iW v p.kind s=(p,0):=by
 have i1:=g.id1;have i2:=g.id2;have hl:=congrArg List.length hs;rw[aN,List.length_append,fM]at hl;have hid:br s 0 0 2=p.id.toNat:=by
  have:=sc (k:=2) (t:=s) (a:=0) (by rw[cS];exact hs) (fM _ _) (by omega);rw[show((2:Nat):Int)=2 from rfl]at this;rw[this,H7 _ (by omega)]
 have hd:(ls s).drop 2=oG p.kind p.code p.props:=by
  have:=Iw (t:=s) (a:=0) (by rw[cS];exact hs);rwa[fM,bV]at this
 have hr:it v p.kind s=(p.code,p.props,s.size,0):=by
  unfold it
  by_cases h5:v=5
  ·rw[if_pos h5,JU hd (by omega) g.c1 g.c2 g.bytes hn]
  ·rw[ae h5];obtain⟨e1,e2⟩:=g.old ((AI g.k).resolve_right h5);have hz:Fa p=[]:=by unfold Fa;rw[if_pos ⟨e1,by rw[e2];rfl⟩]
   rw[hz]at hl;rw[e1,e2,show s.size=2 by simpa using hl]
 have hp:gq v p.kind s=p:=by
  unfold gq;rw[hr,hid,show((p.id.toNat:Nat):Int)=p.id by omega];exact g.same.symm
 have he:fP v p.kind s=0:=by
  unfold fP;rw[hr];simp
 unfold iW;rw[g.k,ae (by decide),ae (by omega),he,ae (by decide),hp,g.ok,ae (by decide)]
theorem KO (f:Int):eu 3 f=gd f:=if_pos rfl
theorem LZ (t r:ByteArray):(cQ t++r).size=2+t.size+r.size:=by
 rw[←aN,oa,List.length_append,List.length_append,fM,aN,aN];omega
theorem Lv (t r:ByteArray) (h:t.size<65536) (hv:bN t=true):bL (cQ t++r)=(t,2+t.size,0):=by
 have hz:=LZ t r;have hn:br (cQ t++r) 0 0 2=t.size:=by
  unfold br;rw[show(2:Int)=((2:Nat):Int)from rfl,dZ (by omega),db,oa,cS,eW (by rw[fM];exact ac 2),bt (by rw[fM];exact ac 2),H7 _ h]
 have hx:(cQ t++r).extract 2 (2+t.size)=t:=eX (by
  rw[db,oa,List.drop_append_of_le_length (by rw[fM];exact ac 2),gD (by rw[fM];exact ac 2),dX,eW (by rw[aN];exact ac _),bt (by rw[aN];exact ac _)])
 have hb:dJ (cQ t++r)=(t,2+t.size,0):=by
  unfold dJ;rw[hn,hx,ae (by omega),ae (by omega)]
 unfold bL;rw[hb];simp[hv]
theorem Og (v:Int) (p:Pk) (y:ByteArray):ii v {p with payload:=y}=ii v p:=by
 have hF:kL v {p with payload:=y}=kL v p:=by
  unfold kL;refine eb.2 ⟨fun h=>⟨?_,h.2⟩,fun h=>⟨?_,h.2⟩⟩
  ·exact congrArg (fun q:Pk=>{q with payload:=p.payload}) h.1
  ·exact congrArg (fun q:Pk=>{q with payload:=y}) h.1
 have hL:∀j,dK v {p with payload:=y} j=dK v p j:=by
  intro j;unfold dK;rw[hF];rfl
 unfold ii;simp only[hL]
theorem Ks {p:Pk} (h:tJ p=false):gd (ke p)=true∧decide (8≤ke p)=p.dup∧ke p/ 2% 4=p.qos∧decide (ke p% 2=1)=p.retain:=by
 have hb:=Gy h;unfold gd ke;obtain h0| h1| h2:p.qos=0∨p.qos=1∨p.qos=2:=by omega
 ·rw[h0]at hb⊢;cases hd:p.dup
  ·cases p.retain<;>decide
  ·exact absurd (.inr (.inr ⟨rfl,hd⟩)) hb
 ·rw[h1];cases p.dup<;>cases p.retain<;>decide
 ·rw[h2];cases p.dup<;>cases p.retain<;>decide
theorem GU {l r:List UInt8} {n:Nat} (h:l.length=n):(l++r).drop n=r:=by
 rw[←h,List.drop_left]
theorem Lx (v:Int) (p:Pk) (y:ByteArray):ys v p++y=cQ p.topic++⟨((if p.qos≠0 then da p.id.toNat 2 else [])++((if v=5 then(aM p.kind p.props).1 else [])++ls y)).toArray⟩:=eX (by
 rw[BG];generalize (if p.qos≠0 then da p.id.toNat 2 else [])++((if v=5 then(aM p.kind p.props).1 else [])++ls y)=C;rw[oa,jo C,List.append_assoc])
theorem Nq {v:Int} {p:Pk} (x:ii v p=0) (hn:∀q∈p.props,q.n<4294967296) (y:ByteArray):km v (ke p) (ys v p++y)=({p with payload:=y},0):=by
 have g:=zB x;obtain⟨f1,f2,f3,f4⟩:=Ks g.flags;have hts:p.topic.size<65536:=by
  have:=g.topic;unfold bN at this;simp only[eh,Fx]at this;omega
 have hU:bL (ys v p++y)=(p.topic,2+p.topic.size,0):=by rw[Lx];exact Lv _ _ hts g.topic
 have hk:ba v=true:=au g.k;have hl:=BG v p y;have hA:(da p.topic.size 2++ls p.topic).length=2+p.topic.size:=by rw[List.length_append,fM,aN]
 have hsz:(ys v p++y).size=2+p.topic.size+((if p.qos≠0 then da p.id.toNat 2 else []).length+((if v=5 then(aM p.kind p.props).1 else []).length+y.size)):=by
  rw[←aN,hl,List.length_append,hA,List.length_append,List.length_append,aN]
 have hAt:iu (ke p) (ys v p++y)=2+p.topic.size+(if p.qos≠0 then da p.id.toNat 2 else []).length:=by
  unfold iu;rw[hU,f3]
  by_cases h0:p.qos≠0
  ·rw[if_pos h0,if_pos h0,fM]
  ·rw[ae h0,ae h0];rfl
 have hI:mm (ke p) (ys v p++y)=p.id:=by
  unfold mm;rw[hU,f3]
  by_cases h0:p.qos≠0
  ·have:=g.id1 h0;rw[if_pos h0,db,hl,GU hA,if_pos h0,eW (by rw[fM];exact ac 2),bt (by rw[fM];exact ac 2),H7 _ (by omega)];omega
  ·rw[ae h0];exact(g.id0 (aU.1 h0)).symm
 have hdrop:(ls (ys v p++y)).drop (iu (ke p) (ys v p++y))=(if v=5 then(aM p.kind p.props).1 else [])++ls y:=by
  rw[hAt,←et,hl,GU hA,GU rfl]
 have hP:fG v (ke p) (ys v p++y)=(p.props,(if v=5 then(aM p.kind p.props).1 else []).length,0):=by
  unfold fG
  by_cases h5:v=5
  ·rw[if_pos h5]at hdrop⊢;rw[if_pos h5];rw[g.kind]at hdrop⊢;exact Jb g.bytes hn (rest:=ls y) (by rw[ju];exact hdrop)
  ·rw[ae h5,ae h5,g.old (g.k.resolve_right h5)];rfl
 have hY:(ys v p++y).extract (iu (ke p) (ys v p++y)+(if v=5 then(aM p.kind p.props).1 else []).length) (ys v p++y).size=y:=eX (by
  rw[ju,←et,hdrop,GU rfl])
 have hFull:gI v (ke p) (ys v p++y)= {p with payload:=y}:=by
  unfold gI;rw[hU,hI,hP];simp only;rw[hY];unfold eU;rw[f2,f3,f4];have e:=congrArg (fun q:Pk=>{q with payload:=y}) g.same;refine Eq.trans ?_ e.symm;unfold zA;rw[g.kind]
 have hE:ii v (gI v (ke p) (ys v p++y))=0:=by rw[hFull,Og];exact x
 unfold km;rw[ae (fun z=>by rw[hk]at z;cases z),ae (fun z=>z (by unfold eJ;rw[ae (fun z=>by rw[hk]at z;cases z),ae (fun z=>by rw[f1]at z;cases z)])),hU,ae (fun z=>z rfl),f3,ae,hP,ae (fun z=>z rfl),hE,ae (fun z=>z rfl),hFull];rintro ⟨h0,h⟩;rw[hsz,if_pos h0,fM]at h;simp only at h;omega
end Go.Proofs.YtpcleamaieaefaaGreatDoor
