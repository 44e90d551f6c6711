/- A part of what the laws stand on: MPrp, Row, Open. -/
import Derived.Test.YtbdgkkmbnahgiaaGreatDoorMxG0MPro
import Derived.Laws.StructEq
import Derived.Test.YtbdgkkmbnahgiaaGreatDoorRows
import Derived.ProofKit
import Derived.OpenShut
import Derived.Carry
import Derived.SizedLaws
import Derived.Deep.Slices
import Derived.Deep.Fields
import Derived.ChangeArms
import Derived.ChangeMaps5
set_option maxRecDepth 10000
set_option maxHeartbeats 8000000
namespace Go.Proofs.YtbdgkkmbnahgiaaGreatDoor
open Go.RowKit Go.Proofs.Tryz
def cnt(k:Nat)(l:List Pr):Nat:=l.countP fun p=>p.id.toNat==k
theorem lJ(k:Nat)(p:Pr)(l:List Pr):cnt k (p :: l)=cnt k l+if p.id.toNat=k then 1 else 0:=by
 simp[cnt,List.countP_cons]
theorem ME(k:Nat)(a b:List Pr):cnt k (a++b)=cnt k a+cnt k b:=by simp[cnt]
theorem EX{k:Nat}{l:List Pr}:0<cnt k l↔∃p∈l,p.id.toNat=k:=by
 simp[cnt,List.countP_pos_iff]
def ckL(kind:Int)(l:List Pr):Prop:=∀p∈l,de (cr p.id) kind p=0
def oK(kind:Int)(f:Nat->Nat)(l:List Pr):Prop:=∀p∈l,gS kind p.id.toNat=false->f p.id.toNat+cnt p.id.toNat l<=1
theorem kU(f:Nat->Nat)(kind:Int)(k:Nat):iC f kind k=true↔1<=f k/\gS kind k=false:=by
 unfold iC;simp;omega
theorem rZ(kind:Int)(f:Nat->Nat)(p:Pr)(l:List Pr)(h:¬(1<=f p.id.toNat/\gS kind p.id.toNat=false)):
  oK kind (upd f p.id.toNat (f p.id.toNat+1)) l↔oK kind f (p :: l):=by
 have e:∀j,upd f p.id.toNat (f p.id.toNat+1) j+cnt j l=f j+cnt j (p :: l):=by
  intro j;rw[lJ];unfold upd
  by_cases hj:j=p.id.toNat
  ·subst hj;simp;omega
  ·rw[ae hj,ae (fun x=>hj x.symm)];rfl
 unfold oK;simp only[e]
 constructor
 ·intro ho q hq hoft;rcases ie.1 hq with rfl| hq
  ·have hf:f q.id.toNat=0:=by
    rcases dh (f q.id.toNat)with h0| h0
    ·exact h0
    ·exact absurd ⟨h0,hoft⟩ h
   rcases dh (cnt q.id.toNat l)with h0| h0
   ·rw[lJ];simp;omega
   ·obtain⟨x,hx,hxe⟩:=EX.1 h0;have:=ho x hx (by rw[hxe];exact hoft);rw[hxe]at this;exact this
  ·exact ho q hq hoft
 ·intro ho q hq hoft;exact ho q (kV _ hq) hoft
theorem qL(kind:Int):∀(l:List Pr) (f:Nat->Nat) (out:List UInt8),(eO kind l f out).2=0↔(ckL kind l/\oK kind f l/\jp (fun k=>f k+cnt k l)=false)
 | [],f,out=>by
   simp only[eO,ckL,oK,cnt,List.countP_nil,jV];cases h:jp f<;>simp
 | p :: l,f,out=>by
   have e:(fun j=>upd f p.id.toNat (f p.id.toNat+1) j+cnt j l)=fun j=>f j+cnt j (p :: l):=by
    funext j
    rw[lJ];unfold upd
    by_cases hj:j=p.id.toNat
    ·subst hj;simp;omega
    ·rw[ae hj,ae (fun x=>hj x.symm)];rfl
   rw[eO]
   by_cases hc:de (cr p.id) kind p=0
   ·rw[ae (by simpa using hc)]
    by_cases ha:iC f kind p.id.toNat=true
    ·rw[if_pos ha]
     constructor
     ·intro h;exact absurd h (by decide)
     ·rintro ⟨_,h,_⟩;have h1:=h p (by simp) ((kU _ _ _).1 ha).2;have h2:=((kU _ _ _).1 ha).1;rw[lJ]at h1;simp at h1;omega
    ·rw[ae ha,qL kind l,e,rZ kind f p l (fun h=>ha ((kU _ _ _).2 h))]
     constructor
     ·rintro ⟨h1,h2,h3⟩;refine⟨fun q hq=>?_,h2,h3⟩;rcases ie.1 hq with rfl| hq
      ·exact hc
      ·exact h1 q hq
     ·rintro ⟨h1,h2,h3⟩;exact⟨fun q hq=>h1 q (kV _ hq),h2,h3⟩
   ·rw[if_pos hc]
    constructor
    ·intro h;exact absurd h hc
    ·rintro ⟨h,_⟩;exact absurd (h p (by simp)) hc
theorem mt(kind:Int):∀(l:List Pr) (f:Nat->Nat) (out:List UInt8),(eO kind l f out).2=0->eO kind l f out=(eP (out++l.flatMap jI).length++(out++l.flatMap jI),0)
 | [],f,out=>by
   rw[eO];cases h:jp f<;>simp
 | p :: l,f,out=>by
   rw[eO]
   by_cases hc:de (cr p.id) kind p=0
   ·rw[ae (by simpa using hc)]
    by_cases ha:iC f kind p.id.toNat=true
    ·rw[if_pos ha];intro h;exact absurd h (by decide)
    ·rw[ae ha];intro h;rw[mt kind l _ _ h];simp
   ·rw[if_pos hc];intro h;exact absurd h hc
theorem JR(kind:Int):∀(l:List Pr) (f:Nat->Nat) (out:List UInt8),(eO kind l f out).2≠0->(eO kind l f out).1=[]
 | [],f,out=>by
   rw[eO];cases h:jp f<;>simp
 | p :: l,f,out=>by
   rw[eO]
   by_cases hc:de (cr p.id) kind p=0
   ·rw[ae (by simpa using hc)]
    by_cases ha:iC f kind p.id.toNat=true
    ·rw[if_pos ha];intro _;rfl
    ·rw[ae ha];exact JR kind l _ _
   ·rw[if_pos hc];intro _;rfl
def okL(kind:Int)(l:List Pr):Prop:=ckL kind l/\(∀p∈l,gS kind p.id.toNat=false->cnt p.id.toNat l<=1)/\¬(0<cnt 22 l/\cnt 21 l=0)
theorem Cr(f:Nat->Nat):jp f=false↔¬(0<f 22/\f 21=0):=by
 unfold jp;rw[<-Bool.not_eq_true];simp
theorem yz(kind:Int)(l:List Pr):okL kind l↔(ckL kind l/\oK kind (fun _=>0) l/\jp (fun k=>0+cnt k l)=false):=by
 unfold okL oK;rw[Cr];simp only[bV]
theorem sx(kind:Int)(l:List Pr):(aM kind l).2=0↔l.length<=1000/\okL kind l:=by
 unfold aM
 by_cases h:1000<l.length
 ·rw[if_pos h]
  constructor
  ·intro h;exact absurd h (by decide)
  ·rintro ⟨h1,_⟩;omega
 ·rw[ae h,qL,yz]
  constructor
  ·intro h1;exact⟨by omega,h1⟩
  ·rintro ⟨_,h1⟩;exact h1
theorem tE(kind:Int)(l:List Pr)(h:(aM kind l).2=0):aM kind l=(eP (l.flatMap jI).length++l.flatMap jI,0):=by
 unfold aM at h⊢
 by_cases hl:1000<l.length
 ·rw[if_pos hl]at h;exact absurd h (by decide)
 ·rw[ae hl]at h⊢;rw[mt kind l _ _ h];simp
theorem Ix(kind:Int)(l:List Pr)(h:(aM kind l).2≠0):(aM kind l).1=[]:=by
 unfold aM at h⊢
 by_cases hl:1000<l.length
 ·rw[if_pos hl]
 ·rw[ae hl]at h⊢;exact JR kind l _ _ h
theorem KN{kind:Int}{p:Pr}(h:de (cr p.id) kind p=0):Km kind p.id=gS kind p.id.toNat:=by
 have hid:=(nr h).1;have hm:Jv kind p.id=true:=by
  unfold Jv;rcases hh:ng (cr p.id) kind with _| _
  ·unfold de at h;rw[if_pos hh]at h;exact absurd h (by decide)
  ·rfl
 have e:((p.id.toNat:Nat):Int)=p.id:=by omega
 unfold Km;rw[hm,IK,e]
theorem Kv{kind:Int}{a b:List Pr}:ckL kind (a++b)↔ckL kind a/\ckL kind b:=by
 unfold ckL
 constructor
 ·intro h;exact⟨fun p hp=>h p (cj.2 (.inl hp)),fun p hp=>h p (cj.2 (.inr hp))⟩
 ·rintro ⟨h1,h2⟩ p hp;rcases cj.1 hp with hp| hp
  ·exact h1 p hp
  ·exact h2 p hp
def nh(l:List Pr)(id:Int):Option Pr:=l.find? fun p=>p.id==id
theorem zZ:(prog.info? 102).map (fun i=>(i.zero,i.size,i.bytes))=some (some (.agg #[.int .i64 0,.int .u32 0,.string ⟨#[]⟩,.string ⟨#[]⟩]),4,48):=by kernel_rfl
theorem M9(w:World):(sizeOf 102).run prog w= .ok 4 w:=by kernel_rfl
theorem Eb(l:List Pr):∀u∈prs l,u.oneCell'=true:=by
 intro u hu;obtain⟨p,_,hp⟩:=ou.1 hu;simp[prC]at hp;rcases hp with rfl| rfl| rfl| rfl<;>rfl
theorem Oh(l:List Pr)(k:Nat):(prs l).take (k*4)=prs (l.take k):=by
 induction k generalizing l with
 | zero=>simp[prs]
 | succ k ih=>
   cases l with
   | nil=>simp[prs]
   | cons p l=>
     rw[show(k+1)*4=4+k*4 by omega];have:=ih l;simp[prs,prC]at this⊢;rw[show 4+k*4=k*4+1+1+1+1 by omega]
     simpa using this
theorem wK(a b:List Pr):prs (a++b)=prs a++prs b:=by simp[prs]
def wt(l:List Pr):Nat:=(l.map fun p=>p.text.size+p.value.size).sum
theorem OT(l:List Pr)(k:Nat)(h:k<l.length):wt (l.take (k+1))=wt (l.take k)+l[k].text.size+l[k].value.size:=by
 unfold wt;rw[fE h,Ii,List.sum_append];simp only[fI,gC,SK,Ur];omega
def ea(p:Pr):Prop:=p.n<4294967296/\p.text.size<=140737488351232/\p.value.size<=140737488351232
theorem rU{p:Pr}(h:ea p):p.Ok:=⟨h.1,by have:=h.2.1;omega,by have:=h.2.2;omega⟩
def KT(l:List Pr):Prop:=∀p∈l,p.text.size<=140737488351232/\p.value.size<=140737488351232
theorem Jm{l:List Pr}(h:∀p∈l,ea p):KT l:=fun p hp=>(h p hp).2
theorem PS:∀(l:List Pr),KT l->wt l<=l.length*281474976702464
 | [],_=>by simp[wt]
 | p :: l,h=>by
   have h1:=PS l (fun q hq=>h q (kV _ hq));have h2:=h p (by simp);simp[wt]at h1⊢;omega
theorem Me{l:List Pr}(h:KT l)(k:Nat):KT (l.take k):=fun p hp=>h p (IU hp)
theorem Mb(l:List Pr)(A:Option Addr)(c:Nat)(w:World)(h:Rd w w.heap.size 4 A l.length (prs l))(hl:l.length<=1010)(hs:KT l):
  Calls prog 125 #[.slice A l.length c] w fun e w'=>e= .returned (.int .i64 (wt l))/\Below w.heap.size w w':=by
 have H:=aa h;have HS:=aa hs;clear h hs
 go_enter func125,ntmps125;go_wp2
 go_loopw [3,4] (fun n i wr=>∃k:Nat,k<=l.length/\i= .int .i64 k/\n= .int .i64 (wt (l.take k))/\Below w.heap.size w wr) (fun _ i _=>l.length- (intOf i).toNat)
 case atStart=>exact⟨0,by omega,rfl,rfl,aq _ _⟩
 case round=>
  obtain⟨k,hk,rfl,rfl,hbel⟩:=hrel
  by_cases hlt:k<l.length
  ·obtain⟨b,o,rfl,hb,c0,c1,c2,c3⟩:=(H.o.below hbel).atP hlt;have h2:=HS.o l[k] (iY hlt);have h3:=PS (l.take k) (Me HS.o k);rw[cY]at h3;have h3':wt (l.take k)<=284289726469488640:=by omega
   have HW:=aa (OT l k hlt);clear h3 c0 c1;generalize wt (l.take k)=q at*;generalize l[k]=p at*;obtain⟨id,n,t,v⟩:=p;simp only at h2 HW c2 c3;obtain⟨h4,h5⟩:=h2;have w1:IntKind.i64.wrap ((q:Int)+(t.size:Int))=(q:Int)+(t.size:Int):=by rw[aQ];omega
   have w2:IntKind.i64.wrap ((q:Int)+(t.size:Int)+(v.size:Int))=(q:Int)+(t.size:Int)+(v.size:Int):=by rw[aQ];omega
   have b1:(0:Int)<=(k:Int):=by omega
   have b2:(k:Int)<(l.length:Int):=by omega
   go_wp2
   go_quiet (fail)
   go_wp2
   go_roundw
   case rel=>exact⟨k+1,by omega,by go_num,by rw[HW.o];go_num,aV hbel _⟩
   case measure=>simp[intOf];omega
  ·obtain rfl:k=l.length:=by omega
   go_wp2;go_ret;exact⟨by rw[GK];rfl,hbel⟩
def Ig(l:List Pr):Bool:=decide (l.length<=1010)&&decide (wt l<=140000)
theorem Kq(l:List Pr)(A:Option Addr)(c:Nat)(w:World)(h:Rd w w.heap.size 4 A l.length (prs l))(hl:l.length<=4611686018427387904)(hs:KT l):
  Calls prog 79 #[.slice A l.length c] w fun e w'=>e= .returned (.bool (Ig l))/\Below w.heap.size w w':=by
 have H:=aa h;have HS:=aa hs;clear h hs
 by_cases h1:l.length<=1010
 ·have HF:Hid (Ig l=decide (wt l<=140000)):=aa (by rw[Ig,au h1,aL]);have d1:(l.length:Int)<=1010:=by omega
  have HL:=aa h1;go_enter func79,ntmps79
  go_wp2_with fail
  refine(Mb l A c _ H.o HL.o HS.o).mono ?_;rintro e w1 ⟨rfl,hb⟩;go_wp2;go_ret;exact⟨by rw[HF.o];congr 2;simp;omega,hb⟩
 ·have HF:Hid (Ig l=false):=aa (by rw[Ig,ah h1,bj]);have d1:(1010:Int)<(l.length:Int):=by omega
  clear h1;go_enter func79,ntmps79;go_wp2;go_ret;exact⟨by rw[HF.o];rfl,aq _ _⟩
def xg(l:List Pr)(id:Int):Pr:=(nh l id).getD ⟨0,0,⟨#[]⟩,⟨#[]⟩⟩
theorem CD(id:Int)(l:List Pr)(A:Option Addr)(c:Nat)(w:World)(h:Rd w w.heap.size 4 A l.length (prs l))(hl:l.length<=4611686018427387904):
  Calls prog 383 #[.slice A l.length c,.int .i64 id] w fun e w'=>e= .returned (.tuple #[(xg l id).val,.bool (nh l id).isSome])/\Below w.heap.size w w':=by
 have H:=aa h;clear h
 go_enter func383,ntmps383;go_wp2
 go_loopw [10] (fun i wr=>∃k:Nat,k<=l.length/\i= .int .i64 k/\nh l id=nh (l.drop k) id/\Bk wr w.heap.size 102 #[.int .i64 0,.int .u32 0,.string ⟨#[]⟩,.string ⟨#[]⟩]/\Below w.heap.size w wr) (fun i _=>l.length- (intOf i).toNat)
 case atStart=>exact⟨0,by omega,rfl,rfl,Bk.fresh _ _ _,(aq _ _).alloc (ac _) _⟩
 case round=>
  obtain⟨k,hk,rfl,hg,hbk,hbel⟩:=hrel;have HG:=aa hg;have HB:=aa hbk
  have hz:=hbel.size;have hlw:=hbk.lt;clear hg hbk
  by_cases hlt:k<l.length
  ·obtain⟨b,o,rfl,hb,c0,c1,c2,c3⟩:=(H.o.below hbel).atP hlt;have HD:=aa (bQ hlt);generalize l[k]=p at*;obtain⟨pid,n,t,v⟩:=p;simp only at c0 c1 c2 c3;have b1:(0:Int)<=(k:Int):=by omega
   have b2:(k:Int)<(l.length:Int):=by omega
   have HB2:=aa (HB.o.alloc (.cells #[.int .i64 pid,.int .u32 n,.string t,.string v] 102));have HL2:=aa (hbel.alloc (by omega) (.cells #[.int .i64 pid,.int .u32 n,.string t,.string v] 102))
   by_cases he:pid=id
   ·subst he;obtain⟨⟨d0,d1,d2,d3⟩,f0,f1,f2,f3⟩:=HB.o.four;have HF:Hid (nh l pid=some ⟨pid,n,t,v⟩):=aa (by rw[HG.o,HD.o];simp[nh]);go_wp2;have HX:=aa ((cD hbel (ac _) (.int .i64 pid) (.int .u32 n) (.string t) (.string v)).alloc (by simp;omega) (.cells #[.int .i64 pid,.int .u32 n,.string t,.string v] 102));exact av (v:=.tuple #[.agg #[.int .i64 pid,.int .u32 n,.string t,.string v],.bool true]) (by simp[results,Tryz.results383,go_sem,hlw,d0,d1,d2,d3]) rfl ⟨by unfold xg;rw[HF.o];rfl,HX.o⟩
   ·have e1:(pid==id)=false:=ar.2 he;have HF:Hid (nh l id=nh (l.drop (k+1)) id):=aa (by rw[HG.o,HD.o];simp[nh,e1]);have HE:=aa he;clear he
    go_wp2
    go_roundw
    case rel=>exact⟨k+1,by omega,by go_num,HF.o,HB2.o,HL2.o⟩
    case measure=>simp[intOf];omega
  ·obtain rfl:k=l.length:=by omega
   have HF:Hid (nh l id=none):=aa (by rw[HG.o,ox];rfl);obtain⟨⟨d0,d1,d2,d3⟩,f0,f1,f2,f3⟩:=HB.o.four;go_wp2;have HX:=aa (cD hbel (ac _) (.int .i64 0) (.int .u32 0) (.string ⟨#[]⟩) (.string ⟨#[]⟩));exact av (v:=.tuple #[.agg #[.int .i64 0,.int .u32 0,.string ⟨#[]⟩,.string ⟨#[]⟩],.bool false]) (by simp[results,Tryz.results383,go_sem,d0,d1,d2,d3]) rfl ⟨by unfold xg;rw[HF.o];rfl,HX.o⟩
section
attribute [local go_sem ↓] Go.wp_at_zero Go.wp_at_succ
def gZ(w0 x:World):Prop:=Below w0.heap.size w0 x
section
variable {w0 x y:World}
theorem gZ.refl(w:World):gZ w w:=aq _ _
theorem gZ.below(h:gZ w0 x)(hb:Below x.heap.size x y):gZ w0 y:=Below.trans h (hb.mono (Below.size h))
theorem gZ.drewN(h:gZ w0 x)(n:Nat):gZ w0 (x.drewN n):=aV h n
theorem gZ.drew(h:gZ w0 x):gZ w0 x.drew:=aV h 1
theorem gZ.alloc(h:gZ w0 x)(o:Obj):gZ w0 (x.alloc o):=Below.alloc h (Below.size h) o
theorem gZ.app{v:Value}(h:gZ w0 x)(hg:x.grownBy y v.ownBlock)(hv:∀k,v.ownBlock=some k->w0.heap.size<=k):gZ w0 y:=Below.grown h hg (Below.size h) hv
theorem gZ.rd{k n:Nat}{A:Option Addr}{xs:List Value}(hk:gZ w0 x)(h:Rd w0 w0.heap.size k A n xs):Rd x x.heap.size k A n xs:=(h.below hk).wider (Below.size hk)
theorem gZ.to(h:gZ w0 x):Below w0.heap.size w0 x:=h
theorem gZ.size(h:gZ w0 x):w0.heap.size<=x.heap.size:=Below.size h
theorem gZ.own{e:TypeId}{k n:Nat}{v:Value}{xs:List Value}(_:gZ w0 x)(h:y.ownsRow x.heap.size e k v n xs)(hk:w0.heap.size<=x.heap.size):∀g,v.ownBlock=some g->w0.heap.size<=g:=fun g hg=>aC hk (cX h g hg).1
end
theorem UB(kind:Int)(l:List Pr)(n:Nat)(hn:l.length=n)(hok:∀p∈l,ea p)(A:Option Addr)(cap:Nat)(w:World)(h:Rd w w.heap.size 4 A n (prs l))(hl:n<=4611686018427387904):
  Calls prog 57 #[.int .i64 kind,.slice A n cap] w fun e w'=>e= .returned (.tuple #[.string ⟨(aM kind l).1.toArray⟩,.int .i64 (aM kind l).2])/\Below w.heap.size w w':=by
 subst hn;exact xA kind l (fun p hp=>rU (hok p hp)) A cap w h hl
theorem gu(kind:Int)(l:List Pr)(n:Nat)(hn:l.length=n)(hok:∀p∈l,ea p)(A:Option Addr)(cap:Nat)(w:World)(h:Rd w w.heap.size 4 A n (prs l))(hl:n<=4611686018427387904):
  Calls prog 75 #[.int .i64 kind,.slice A n cap] w fun e w'=>e= .returned (.int .i64 (aM kind l).2)/\Below w.heap.size w w':=by
 subst hn;exact vZ kind l (fun p hp=>rU (hok p hp)) A cap w h hl
theorem Rd.one4(w:World)(p:Pr):Rd (w.alloc (.cells #[.int .i64 p.id,.int .u32 p.n,.string p.text,.string p.value] 102)) (w.heap.size+1) 4 (some ⟨w.heap.size,0,none⟩) 1 (prs [p]):=by
 have:=Rd.lit4 w #[.int .i64 p.id,.int .u32 p.n,.string p.text,.string p.value] 102 [p] rfl
 simpa using this
end
theorem Jw{kind:Int}:∀ {l:List Pr},ckL kind l->(l.flatMap jI).length<=l.length*131075
 | [],_=>by simp
 | p :: l,h=>by
   have h1:=zC (h p (by simp));have h2:=Jw (fun q hq=>h q (kV _ hq));rw[cF,List.length_append,bM];omega
theorem G6(kind:Int)(l:List Pr)(h:(aM kind l).2=0):(l.flatMap jI).length<=131075000/\(aM kind l).1.length<=131075004:=by
 have hb:=tE kind l h;obtain⟨h1,h2,_⟩:=(sx kind l).1 h;have h3:=Jw h2;refine⟨by omega,?_⟩;rw[hb];have:=mO 3 (l.flatMap jI).length;simp only[eP,List.length_append];omega
theorem GW(l:List UInt8):(⟨l.toArray⟩:ByteArray).size=l.length:=by show l.toArray.size=_;simp
theorem P7(a b:List UInt8):(⟨(a++b).toArray⟩:ByteArray)=⟨a.toArray⟩++⟨b.toArray⟩:=(FE a b).symm
instance:DecidableEq Pr:=fun a b=>decidable_of_iff (a.id=b.id/\a.n=b.n/\a.text=b.text/\a.value=b.value) (by cases a;cases b;simp)
theorem zD(a b:Pr):a=b↔a.id=b.id/\a.n=b.n/\a.text=b.text/\a.value=b.value:=by cases a;cases b;simp
theorem qz:prog.eqGuardType prog.depth 102=false:=by kernel_rfl
theorem toList_inj(a b:ByteArray):a.toList=b.toList↔a=b:=by
 rw[ByteArray.toList_eq,ByteArray.toList_eq];exact⟨fun h=>eX h,fun h=>by rw[h]⟩
theorem vC(p q:Pr)(w:World):(binOp .eql 102 (.agg #[.int .i64 p.id,.int .u32 p.n,.string p.text,.string p.value]) (.agg #[.int .i64 q.id,.int .u32 q.n,.string q.text,.string q.value])).run prog w= .ok (.bool (decide (p=q))) w:=by
 have u1:=underlying3;have u2:=underlying100;have u3:=underlying9;have hS:prog.underlying 102=some (.struct (prog.fieldsOf 102)):=by kernel_rfl
 have hp:prog.stoodInHeld 102=false:=by kernel_rfl
 rw[run_eql_struct,show(10000:Nat)=9999+1 from rfl,run_equalIn_agg w 9999 102 _ _ hS hp];simp only[Program.fieldsOf,underlying102];go_simp
 by_cases h1:p.id=q.id<;>by_cases h2:p.n=q.n<;>by_cases h3:p.text=q.text<;>by_cases h4:p.value=q.value<;>simp[zD,h1,h2,h3,h4,toList_inj]<;>omega
theorem Cb(p q:Pr)(w:World):(binOp .neq 102 (.agg #[.int .i64 p.id,.int .u32 p.n,.string p.text,.string p.value]) (.agg #[.int .i64 q.id,.int .u32 q.n,.string q.text,.string q.value])).run prog w= .ok (.bool (!decide (p=q))) w:=by
 have h:=vC p q w;rw[run_eql_struct]at h;rw[run_neq_struct];generalize (Op.equalIn 10000 _ _ _).run prog w=r at h⊢;cases r with
 | ok b w'=>simp[Result.andThen]at h⊢;obtain⟨rfl,rfl⟩:=h;simp
 | halt x w'=>simp[Result.andThen]at h
theorem oJ(A A':Option Addr)(n m c c':Nat)(l l':List Pr)(w:World)(e1:l.length=n)(e2:l'.length=m)(hl:Rd w w.heap.size 4 A n (prs l))(hm:Rd w w.heap.size 4 A' m (prs l'))(hn:n<=4611686018427387904)(hn':m<=4611686018427387904):
  Calls prog 71 #[.slice A n c,.slice A' m c'] w fun e w'=>e= .returned (.bool (decide (l=l')))/\Below w.heap.size w w':=by
 have hgt:=qz
 by_cases hlen:n=m
 ·subst hlen;have E1:=aa e1;have E2:=aa e2;clear e1 e2
  have HL:=aa hl;have HM:=aa hm;clear hl hm
  go_enter func71,ntmps71;go_wp2
  go_loopw [5] (fun i wr=>∃k:Nat,k<=n/\i= .int .i64 k/\(∀j,j<k->l[j]? =l'[j]?)/\Below w.heap.size w wr) (fun i _=>n- (intOf i).toNat)
  case atStart=>exact⟨0,by omega,rfl,fun j hj=>by omega,aq _ _⟩
  case round=>
   obtain⟨k,hk,rfl,hall,hbel⟩:=hrel;have HA:=aa hall;clear hall
   by_cases hlt:k<n
   ·obtain⟨bA,oA,rfl,hb,c0,c1,c2,c3⟩:=(show Rd w w.heap.size 4 A l.length (prs l) by rw[E1.o];exact HL.o).below hbel |>.atP (show k<l.length by rw[E1.o];exact hlt);obtain⟨bA',oA',rfl,hb',d0,d1,d2,d3⟩:=(show Rd w w.heap.size 4 A' l'.length (prs l') by rw[E2.o];exact HM.o).below hbel |>.atP (show k<l'.length by rw[E2.o];exact hlt);have HZ:Hid (l[k]? =some (l[k]'(by rw[E1.o];exact hlt))):=aa (List.getElem?_eq_getElem _);have HZ':Hid (l'[k]? =some (l'[k]'(by rw[E2.o];exact hlt))):=aa (List.getElem?_eq_getElem _);generalize l[k]'(by rw[E1.o];exact hlt)=p at*;generalize l'[k]'(by rw[E2.o];exact hlt)=q at*;have b1:(0:Int)<=(k:Int):=by omega
    have b2:(k:Int)<(n:Int):=by omega
    have hne:=fun W=>Cb p q W
    by_cases he:p=q
    ·subst he;have hd:decide (p=p)=true:=by simp
     rw[hd]at hne;clear hd;go_wp2
     go_quiet (fail)
     go_wp2
     go_roundw
     case rel=>
      refine⟨k+1,by omega,by go_num,fun j hj=>?_,aV hbel _⟩;rcases dx.1 hj with h| rfl
      ·exact HA.o j h
      ·rw[HZ.o,HZ'.o]
     case measure=>simp[intOf];omega
    ·have hd:decide (p=q)=false:=ah he;rw[hd]at hne;have HE:=aa he;clear he hd
     go_wp2
     go_quiet (fail)
     go_wp2;go_ret;refine⟨?_,aV hbel _⟩;have:l≠l':=by
      rintro rfl;have:=HZ.o.symm.trans HZ'.o;exact HE.o (by simpa using this)
     simp[this]
   ·go_wp2;go_ret;refine⟨?_,hbel⟩;have:l=l':=by
     apply dM;intro j
     by_cases hj:j<k
     ·exact HA.o j hj
     ·rw[aG (by have:=E1.o;omega),aG (by have:=E2.o;omega)]
    simp[this]
 ·have h1:((n:Int) != (m:Int))=true:=by simpa using (by omega:¬(n:Int)=(m:Int))
  have HN:=aa hlen;have E1:=aa e1;have E2:=aa e2;clear hlen e1 e2 hl hm
  go_enter func71,ntmps71;go_wp2;go_ret;refine⟨?_,aq _ _⟩;have:l≠l':=by
   rintro rfl;exact HN.o (E1.o.symm.trans E2.o)
  simp[this]
end Go.Proofs.YtbdgkkmbnahgiaaGreatDoor
namespace Go.Proofs.YtbdgkkmbnahgiaaGreatDoor
open Go.ChangeShapes Go.WideShapes Go.ChangeAt Go.RowKit
open Go.Proofs.Tryz
section
variable {H:Type} {enc:TypeId×Value->H} {P:Program} {W W':World}
theorem mR(hl:laidOutB P=true)(hb:Below W.heap.size W W'){sp:Nat->Bool}:∀ {ts:List TypeId} {vs:List Value} {ds:List (DataW H)} {ps:List MemPlace},
  (∀t∈ts,P.readableRec t=true/\t<P.types.size)->DataW.TrodAll enc P W 0 (fun _=>true) true ts vs ds ps->(∀p∈ps,p.block<W.heap.size)->(∀p∈ps,sp p.block=true)->
  DataW.TrodAll enc P W' 0 sp true ts vs ds ps
 | [],[],[],_,_,h,_,_=>h
 | t :: ts,v :: vs,d :: ds,ps,ht,⟨p,q,h1,h2,e⟩,hlt,hsp=>by
   subst e;refine⟨p,q,?_,?_,rfl⟩
   ·obtain⟨hr,hrow⟩:=ht t (by simp);exact WideElems.Trod_stays hl hr hrow h1 (fun x hx=>hb.same (hlt x (by simp[hx]))) (fun x hx=>hsp x (by simp[hx]))
   ·exact mR hl hb (fun t' ht'=>ht t' (by simp[ht'])) h2 (fun x hx=>hlt x (by simp[hx])) (fun x hx=>hsp x (by simp[hx]))
theorem qr{f:Func}{s:ChangeSpec}{fresh handsOn again:Bool}{args:Array Value}{ds:List (DataW H)}{before:List MemPlace}{tb:TypeId}(hl:laidOutB P=true)
  (hts:∀t∈f.params.toList,P.readableRec t=true/\t<P.types.size)(hv:s.vars=[])(hres:f.resultTypes= #[tb])(htb:P.underlying tb=some .bool)
  (hW:DataW.Whole enc P f.params.toList s.vars false W args.toList ds [] before)(hspec:s.fn H (ds++[])= {results:=[.lit (.bool true)],args:=ds})(hb:Below W.heap.size W W'):
  s.post enc P f false fresh handsOn again W args (.bool true) W':=by
 have hlt:∀p∈before,p.block<W.heap.size:=fun p hp=>hW.lt p hp;have hW0:=hW;obtain⟨p,q,hA,hV,he,hz,_⟩:=hW;have hq:q=[]:=by
  rw[hv]at hV;exact hV
 subst hq;rw[cW]at he;subst he;have hargs:∀sp:Nat->Bool,(∀x∈before,sp x.block=true)->DataW.TrodAll enc P W' 0 sp true f.params.toList args.toList (s.fn H (ds++[])).args before:=fun sp hsp=>by
  rw[hspec];exact mR hl hb hts hA hlt hsp
 have hvars:∀sp:Nat->Bool,DataW.TrodVars enc P W' sp s.vars (s.fn H (ds++[])).vars []:=fun sp=>by
  rw[hspec,hv];exact rfl
 have hr:∀(b:Nat) (sp:Nat->Bool) (hd:Bool),DataW.TrodAll enc P W' b sp hd f.resultTypes.toList ((Value.bool true).resultList f.resultTypes.size) (s.fn H (ds++[])).results []:=fun b sp hd=>by
  rw[hspec,hres];exact trodAll_cons_mk (shut_bool htb _) trodAll_mk0
 have hold:∀x∈before,(fun b=>decide (b<W.heap.size)) x.block=true:=fun x hx=>by simpa using hlt x hx
 refine⟨ds,[],before,[],before,[],hW0,hr _ _ _,hargs _ hold,hvars _,World.keptBut_mono (fun x hx=>⟨hx,.inr (by simpa using hx)⟩) (hb.frame (· ∈before)),fun _=>?_⟩;refine⟨ok_one hres rfl (okWide_bool_mk htb _),_,_,([]++before)++[],⟨[]++before,[],trodAll_append (hargs _ (fun _ _=>rfl)) (hr _ _ _),hvars _,rfl,?_,?_⟩,?_⟩
 ·intro b off hp;have hin:MemPlace.cell b off∈before:=by simpa using hp
  rw[hb.frozen (hlt _ hin)];exact hz b off hin
 ·intro ha;cases ha
 ·intro x hx _
  simpa using hx
end
theorem xI{P:Program}{ts:List TypeId}(h:(ts.all fun t=>P.readableRec t&&decide (t<P.types.size))=true):∀t∈ts,P.readableRec t=true/\t<P.types.size:=by
 intro t ht;have:=dL.1 h t ht
 simpa using this
theorem qt:laidOutB prog=true:=by kernel_rfl
theorem lF:ownKnob prog.godebug=none:=by kernel_rfl
end Go.Proofs.YtbdgkkmbnahgiaaGreatDoor
namespace Go.Proofs.YtbdgkkmbnahgiaaGreatDoor
open Go.ChangeShapes Go.WideShapes Go.ChangeAt Go.RowKit Go.Deep
open Go.Proofs.Tryz
section
variable {H:Type} {enc:TypeId×Value->H} {P:Program} {w:World} {base:Nat} {spare:Nat->Bool} {held:Bool}
def fu(P:Program)(t:TypeId)(d:DataW H):Prop:=∀z∈d.weights P t,z<=reachBytes
theorem fJ{e:TypeId}:∀ {ds:List (DataW H)} {d:DataW H},d∈ds->∀z∈d.weights P e,z∈DataW.weightsAll P e ds
 | [],_,h,_,_=>by simp at h
 | x :: ds,d,h,z,hz=>by
   unfold DataW.weightsAll;rcases ie.1 h with rfl| h
   ·exact cj.2 (.inl hz)
   ·exact cj.2 (.inr (fJ h z hz))
theorem fu.elem{t e:TypeId}{l r:List (DataW H)}(ht:P.underlying t=some (.slice e))(h:fu P t (.slice l r)){d:DataW H}(hd:d∈l):fu P e d:=fun z hz=>h z (by
 simp only[DataW.weights,ht];exact kV _ (cj.2 (.inl (fJ hd z hz))))
theorem fu.len{t e:TypeId}{l r:List (DataW H)}(ht:P.underlying t=some (.slice e))(h:fu P t (.slice l r)):l.length*P.bytesOf e<=reachBytes:=by
 have:=h ((l.length+r.length)*P.bytesOf e) (by simp[DataW.weights,ht]);exact aC (iH _ (by omega)) this
theorem fu.str{t:TypeId}{s:List UInt8}(h:fu P t (.lit (.string s):DataW H)):s.length<=reachBytes:=h _ (by simp[DataW.weights])
theorem sized_at{ts:List TypeId}{ds:List (DataW H)}(h:(DataW.weightsEach P ts ds).all (· <=reachBytes)=true){j:Nat}{t:TypeId}{d:DataW H}(ht:ts[j]? =some t)(hd:ds[j]? =some d):fu P t d:=fun z hz=>by
 have:=dL.1 h _ (DataW.weights_mem_each ht hd z hz)
 simpa using this
theorem iA{X:Type}{k:Nat}{C:X->List Value}(hk:∀x,(C x).length=k):∀l:List X,(l.flatMap C).length=l.length*k
 | []=>by simp
 | x :: l=>by
   rw[cF,List.length_append,hk,iA hk l,bM,iK];omega
theorem kQ{X:Type}{k:Nat}{C:X->List Value}(hk:∀x,(C x).length=k):∀(l:List X) (i r:Nat) (h:i<l.length),r<k->(l.flatMap C)[i*k+r]? =(C l[i])[r]?
 | x :: l,0,r,_,hr=>by
   rw[jU,bV,cF,jd (by rw[hk];exact hr)];rfl
 | x :: l,i+1,r,h,hr=>by
   have ih:=kQ hk l i r (by simpa using h) hr;rw[cF,iM (by rw[hk,iK];omega),hk];rw[show(i+1)*k+r- k=i*k+r by rw[iK];omega];exact ih
theorem rX{X:Type}[Inhabited X]{k:Nat}(C:X->List Value)(hk:∀x,(C x).length=k)(hk0:0<k){t e:TypeId}(ht:P.underlying t=some (.slice e))(hc:P.cellsOf e=k)(good:X->Prop)
  (hel:∀(n:Nat) (cs:List Value) (D:DataW H) (Pl:List MemPlace),DataW.trod enc P w base spare held n e cs=some (D,Pl)->fu P e D->(∀x∈Pl,x.block<w.heap.size)->∃x,cs=C x/\good x)
  {fuel:Nat}{cs:List Value}{d:DataW H}{ps:List MemPlace}(h:DataW.trod enc P w base spare held fuel t cs=some (d,ps))(hs:fu P t d)(hlt:∀x∈ps,x.block<w.heap.size):
  ∃(A:Option Addr) (l:List X) (c:Nat),cs=[.slice A l.length c]/\Rd w w.heap.size k A l.length (l.flatMap C)/\(∀x∈l,good x)/\l.length*P.bytesOf e<=reachBytes/\l.length<=c/\c<=maxLen:=by
 rcases open_slice ht h with ⟨rfl,_⟩ | ⟨a,len,cap,m,n,D,Pl,rfl,_,hl,hm,hmm,hx,hi⟩
 ·exact⟨none,[],0,rfl,Rd.nil _ _ _ _,by simp,by simp,ac _,by unfold maxLen;omega⟩
 ·simp only[bG]at hx;obtain⟨rfl,rfl⟩:=hx;have hlm:len<=m:=by rw[hmm];split<;>omega
  have each:∀i,i<len->∃x,good x/\∀r u,(C x)[r]? =some u->w.cell? (a.add (i*k+r))=some u:=by
   intro i hilen;obtain⟨cs',h1,h2⟩:=hi i (by omega);obtain⟨x,rfl,hg⟩:=hel n cs' _ _ h2 (hs.elem ht (jX.2 ⟨i,gn.2 hilen,rfl⟩)) (fun y hy=>hlt y (cj.2 (.inr (ou.2 ⟨i,gn.2 (by omega),hy⟩))));refine⟨x,hg,fun r u hu=>?_⟩;rw[hc]at h1;obtain⟨_,h3,h4⟩:=World.cells?_some h1;have hr:r<k:=by
    rcases fj r k with h| h
    ·exact h
    ·rw[aG (by rw[hk];exact h)]at hu;cases hu
   have:=h4 r hr;rw[add_add]at this;rw[this,hu]
  obtain⟨f,hf⟩:=choose_lt each;have hlen:((List.range len).map f).length=len:=by simp
  refine⟨some a,(List.range len).map f,cap,by rw[hlen],?_,?_,?_,by omega,hm⟩
  ·by_cases h0:len=0
   ·subst h0;exact Rd.nil _ _ _ _
   ·rw[hlen];refine Rd.of_addr (by rw[iA hk,hlen]) ?_ ?_
    ·have hrow:(MemPlace.cell a.block a.off)∈MemPlace.row a (m*P.cellsOf e):=by
      refine MemPlace.mem_row.2 ⟨0,?_,by simp⟩;rw[hc];exact Nat.mul_pos (by omega) hk0
     exact hlt _ (cj.2 (.inl hrow))
    ·intro j u hu;have hj:j<len*k:=by
      rcases fj j (len*k)with h| h
      ·exact h
      ·rw[aG (by rw[iA hk,hlen];exact h)]at hu;cases hu
     have hi1:j/ k<len:=iJ (by rw[eV];exact hj);have hr1:j% k<k:=iI _ hk0;have e:j=j/ k*k+j% k:=by rw[eV];exact(Nat.div_add_mod j k).symm
     rw[e,kQ hk _ _ _ (by rw[hlen];exact hi1) hr1]at hu;rw[e];exact(hf _ hi1).2 _ _ (by simpa using hu)
  ·intro x hx;obtain⟨i,hi2,rfl⟩:=jX.1 hx;exact(hf i (gn.1 hi2)).1
  ·have:=hs.len ht
   simpa using this
theorem Ms{fs:Array Field}{n:Nat}{cs:List Value}{xs:List (DataW H×List MemPlace)}(hone:oneCellFields P fs=true)
  (hf:∀(i:Nat) (f:Field),fs[i]? =some f->DataW.trod enc P w base spare held n f.type ((cs.drop f.offset).take (P.cellsOf f.type))=xs[i]?):
  ∀(i:Nat) (f:Field),fs[i]? =some f->DataW.trod enc P w base spare held n f.type ((cs.drop i).take 1)=xs[i]? :=by
 intro i f hi;obtain⟨ho,hk⟩:=hone_of hone i f hi;have:=hf i f hi;rwa[ho,hk]at this
end
instance:Inhabited Pr:=⟨⟨0,0,⟨#[]⟩,⟨#[]⟩⟩⟩
theorem OZ(p:Pr):(prC p).length=4:=rfl
section
variable {H:Type} {enc:TypeId×Value->H} {w:World} {base:Nat} {spare:Nat->Bool} {held:Bool}
theorem Ns{n:Nat}{cs:List Value}{D:DataW H}{Pl:List MemPlace}(h:DataW.trod enc prog w base spare held n 102 cs=some (D,Pl))(hs:fu prog 102 D):∃p,cs=prC p/\ea p:=by
 obtain⟨xs,n',rfl,hx,hlen,hxl,hf⟩:=Iy underlying102 h;simp only[bG]at hx;obtain⟨rfl,rfl⟩:=hx;have hc4:prog.cellsOf 102=4:=by kernel_rfl
 have hf':=Ms (by kernel_rfl) hf;rw[hc4]at hlen
 match cs,hlen with
 | [c0,c1,c2,c3],_=>
   match xs,hxl with
   | [y0,y1,y2,y3],_=>
     have h0:=hf' 0 _ rfl;have h1:=hf' 1 _ rfl;have h2:=hf' 2 _ rfl;have h3:=hf' 3 _ rfl;obtain⟨z0,e0,rfl,_⟩:=GB underlying3 h0;obtain⟨z1,e1,rfl,w1⟩:=GB underlying100 h1;obtain⟨z2,e2,rfl,_⟩:=GH underlying9 h2;obtain⟨z3,e3,rfl,_⟩:=GH underlying9 h3;simp only[cS,ji,GG,GZ,gY,Hj]at e0 e1 e2 e3;subst e0 e1 e2 e3;have hw:0<=z1/\z1<4294967296:=by
      simp[Lit.wf,IntKind.min,IntKind.max,IntKind.bits,IntKind.signed]at w1;omega
     refine⟨⟨z0,z1.toNat,z2,z3⟩,?_,by simp only;omega,?_,?_⟩
     ·simp only[prC];rw[show((z1.toNat:Nat):Int)=z1 by omega]
     ·have:=hs z2.data.toList.length (by simp[DataW.weights,DataW.weightsEach,underlying102])
      simpa [reachBytes]using this
     ·have:=hs z3.data.toList.length (by simp[DataW.weights,DataW.weightsEach,underlying102])
      simpa [reachBytes]using this
theorem Ki{fuel:Nat}{cs:List Value}{d:DataW H}{ps:List MemPlace}(h:DataW.trod enc prog w base spare held fuel 23 cs=some (d,ps))(hs:fu prog 23 d)(hlt:∀x∈ps,x.block<w.heap.size):
  ∃(A:Option Addr) (l:List Pr) (c:Nat),cs=[.slice A l.length c]/\Rd w w.heap.size 4 A l.length (prs l)/\(∀p∈l,ea p)/\l.length<=2932031007317/\l.length<=c/\c<=maxLen:=by
 obtain⟨A,l,c,h1,h2,h3,h4,h5⟩:=rX prC OZ (by omega) underlying23 (by kernel_rfl) ea (fun n cs D Pl h hs _=>Ns h hs) h hs hlt;refine⟨A,l,c,h1,h2,h3,?_,h5⟩;have hb:prog.bytesOf 102=48:=by kernel_rfl
 rw[hb,reachBytes]at h4;omega
end
end Go.Proofs.YtbdgkkmbnahgiaaGreatDoor
