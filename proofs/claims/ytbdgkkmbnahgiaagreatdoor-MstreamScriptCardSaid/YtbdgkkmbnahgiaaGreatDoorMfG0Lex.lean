/- A part of what the laws stand on: Lex, RfM, MRfC, RhA. -/
import Derived.Test.YtbdgkkmbnahgiaaGreatDoorMfG0MRfB
import Derived.Test.YtbdgkkmbnahgiaaGreatDoorMfG0HdC
set_option maxRecDepth 10000
set_option maxHeartbeats 8000000
namespace Go.Proofs.YtbdgkkmbnahgiaaGreatDoor
open Go.RowKit Go.Proofs.Tryz
def Sp(ops:Array Oper):Nat->List Oper->Bool
 | _,[]=>true
 | k,o :: l=>(o.after.all fun e=>!Region.binds .any e || decide (e.on<k))&&((l.all fun oj=>(oj.after.any fun e=>Region.binds .any e&&e.on==k) || o.apart ops oj)&&Sp ops (k+1) l)
theorem SO(ops:Array Oper):∀(l:List Oper) (k:Nat) (listed:Array Bool),ops.toList.drop k=l->(∀j,j<ops.size->listed[j]? =some (decide (j<k)))->listed.size=ops.size->Sp ops k l=true->Region.lexFrom .any ops l.length k listed=true
 | [],k,listed,hd,hL,hs,_=>by
   have hk:ops.size<=k:=by simpa using hd
   simp only[eC,Region.lexFrom,List.isEmpty_iff];refine List.eq_nil_iff_forall_not_mem.2 fun j hj=>?_;obtain⟨h0,o,ho,-⟩:=mem_ready.1 hj;have hlt:j<ops.size:=(cZ.1 ho).1;have h1:=hL j hlt;rw[Jf,h1,au (by omega)]at h0;cases h0
 | o :: l,k,listed,hd,hL,hs,hf=>by
   simp only[Sp,eh]at hf;obtain⟨hw,ha,hr⟩:=hf;have hk:k<ops.size:=by
    have:=congrArg List.length hd;simp at this;omega
   have hdrop:ops.toList.drop (k+1)=l:=by rw[<-et,hd];rfl
   have ho:ops[k]? =some o:=by
    have:=congrArg (fun z=>z[0]?) hd
    simpa using this
   simp only[bM,Region.lexFrom,eh];refine⟨⟨?_,?_⟩,?_⟩
   ·rw[IE];refine mem_ready.2 ⟨?_,o,ho,fun e he hb=>?_⟩
    ·rw[Jf,hL k hk];simp
    ·have h1:=Array.all_eq_true_iff_forall_mem.1 hw e he;simp only[hb,Ra,nB,Fx]at h1;rw[Jf,hL e.on (by omega),au h1];rfl
   ·simp only[Region.free,ho,dL,gn];intro j hj;rcases Nat.lt_trichotomy j k with h| h| h
    ·have:listed.getD j true=true:=by rw[Jf,hL j hj,au h];rfl
     simp[this]
    ·simp[h]
    ·have hoj:ops[j]? =some ops[j]:=eL hj;have hm:ops[j]∈l:=by
      rw[<-hdrop];refine iL (i:=j- (k+1)) ?_;rw[List.getElem?_drop,show k+1+(j- (k+1))=j by omega];simp
     have:=dL.1 ha _ hm;simp only[hoj];rw[Bool.or_assoc,this,Bool.or_true]<;>simp
   ·refine SO ops l (k+1) _ hdrop (fun j hj=>?_) (by simpa using hs) hr
    by_cases h:k=j
    ·subst h;rw[Array.getElem?_setIfInBounds_self_of_lt (by omega)];simp
    ·rw[eK h,hL j hj]
     congr 1
     exact eb.2 (by omega)
theorem Tk{l:List Oper}(h:(Region.noSelect l.toArray&&Sp l.toArray 0 l)=true):Region.lexB .any l.toArray=true:=by
 simp only[eh]at h;simp only[Region.lexB,eh];refine⟨h.1,?_⟩;have:=SO l.toArray l 0 (Array.replicate l.toArray.size false) (by simp) (fun j hj=>?_) (by simp) h.2
 ·simpa using this
 ·rw[Array.getElem?_replicate,if_pos hj];rfl
theorem JE(A A':Option Addr)(n m c c':Nat)(l l':List Pr)(w:World)(e1:l.length=n)(e2:l'.length=m)(hl:Rd w w.heap.size 4 A n (prs l))(hm:Rd w w.heap.size 4 A' m (prs l'))(hn:n<=4611686018427387904)(hn':m<=4611686018427387904):
  Calls prog 315 #[.slice A n c,.slice A' m c'] w fun e w'=>e= .returned (.bool (decide (l=l')))/\Below w.heap.size w w':=by
 have hgt:=qz
 by_cases hlen:n=m
 ·subst hlen;have E1:=aa e1;have E2:=aa e2;clear e1 e2
  have HL:=aa hl;have HM:=aa hm;clear hl hm
  go_enter func315,ntmps315;go_wp2
  go_loopw [5] (fun i wr=>∃k:Nat,k<=n/\i= .int .i64 k/\(∀j,j<k->l[j]? =l'[j]?)/\Below w.heap.size w wr) (fun i _=>n- (intOf i).toNat)
  case atStart=>exact⟨0,by omega,rfl,fun j hj=>by omega,aq _ _⟩
  case round=>
   obtain⟨k,hk,rfl,hall,hbel⟩:=hrel;have HA:=aa hall;clear hall
   by_cases hlt:k<n
   ·obtain⟨bA,oA,rfl,hb,c0,c1,c2,c3⟩:=(show Rd w w.heap.size 4 A l.length (prs l) by rw[E1.o];exact HL.o).below hbel |>.atP (show k<l.length by rw[E1.o];exact hlt);obtain⟨bA',oA',rfl,hb',d0,d1,d2,d3⟩:=(show Rd w w.heap.size 4 A' l'.length (prs l') by rw[E2.o];exact HM.o).below hbel |>.atP (show k<l'.length by rw[E2.o];exact hlt);have HZ:Hid (l[k]? =some (l[k]'(by rw[E1.o];exact hlt))):=aa (List.getElem?_eq_getElem _);have HZ':Hid (l'[k]? =some (l'[k]'(by rw[E2.o];exact hlt))):=aa (List.getElem?_eq_getElem _);generalize l[k]'(by rw[E1.o];exact hlt)=p at*;generalize l'[k]'(by rw[E2.o];exact hlt)=q at*;have b1:(0:Int)<=(k:Int):=by omega
    have b2:(k:Int)<(n:Int):=by omega
    have hne:=fun W=>Cb p q W
    by_cases he:p=q
    ·subst he;have hd:decide (p=p)=true:=by simp
     rw[hd]at hne;clear hd;go_wp2
     go_quiet (fail)
     go_wp2
     go_roundw
     case rel=>
      refine⟨k+1,by omega,by go_num,fun j hj=>?_,aV hbel _⟩;rcases dx.1 hj with h| rfl
      ·exact HA.o j h
      ·rw[HZ.o,HZ'.o]
     case measure=>simp[intOf];omega
    ·have hd:decide (p=q)=false:=ah he;rw[hd]at hne;have HE:=aa he;clear he hd
     go_wp2
     go_quiet (fail)
     go_wp2;go_ret;refine⟨?_,aV hbel _⟩;have:l≠l':=by
      rintro rfl;have:=HZ.o.symm.trans HZ'.o;exact HE.o (by simpa using this)
     simp[this]
   ·go_wp2;go_ret;refine⟨?_,hbel⟩;have:l=l':=by
     apply dM;intro j
     by_cases hj:j<k
     ·exact HA.o j hj
     ·rw[aG (by have:=E1.o;omega),aG (by have:=E2.o;omega)]
    simp[this]
 ·have h1:((n:Int) != (m:Int))=true:=by simpa using (by omega:¬(n:Int)=(m:Int))
  have HN:=aa hlen;have E1:=aa e1;have E2:=aa e2;clear hlen e1 e2 hl hm
  go_enter func315,ntmps315;go_wp2;go_ret;refine⟨?_,aq _ _⟩;have:l≠l':=by
   rintro rfl;exact HN.o (E1.o.symm.trans E2.o)
  simp[this]
theorem LM(A A':Option Addr)(n m c c':Nat)(l l':List Int)(w:World)(hl:Rd w w.heap.size 1 A n (iv l))(hm:Rd w w.heap.size 1 A' m (iv l'))(hn:n<=9223372036854775807)(hn':m<=9223372036854775807):
  Calls prog 316 #[.slice A n c,.slice A' m c'] w fun e w'=>e= .returned (.bool (decide (l=l')))/\Below w.heap.size w w':=by
 have e1:l.length=n:=by have:=hl.len;simp[iv]at this;omega
 have e2:l'.length=m:=by have:=hm.len;simp[iv]at this;omega
 have E1:=aa e1;have E2:=aa e2;clear e1 e2
 by_cases hlen:n=m
 ·subst hlen;go_enter func316,ntmps316;go_wp2
  go_loopw [5] (fun i wr=>∃k:Nat,k<=n/\i= .int .i64 k/\(∀j,j<k->l[j]? =l'[j]?)/\Below w.heap.size w wr) (fun i _=>n- (intOf i).toNat)
  case atStart=>exact⟨0,by omega,rfl,fun j hj=>by omega,aq _ _⟩
  case round=>
   obtain⟨k,hk,rfl,hall,hbel⟩:=hrel;have HA:=aa hall;clear hall
   by_cases hlt:k<n
   ·obtain⟨bA,oA,z,rfl,hb,hz,hc⟩:=(hl.below hbel).atI hlt;obtain⟨bA',oA',z',rfl,hb',hz',hc'⟩:=(hm.below hbel).atI hlt;have HZ:=aa hz;have HZ':=aa hz';clear hz hz' hl hm
    have b1:(0:Int)<=(k:Int):=by omega
    have b2:(k:Int)<(n:Int):=by omega
    by_cases he:z=z'
    ·subst he;go_wp2
     go_quiet (fail)
     go_wp2
     go_roundw
     case rel=>
      refine⟨k+1,by omega,by go_num,fun j hj=>?_,aV hbel _⟩;rcases dx.1 hj with h| rfl
      ·exact HA.o j h
      ·rw[HZ.o,HZ'.o]
     case measure=>simp[intOf];omega
    ·have h1:(z !=z')=true:=by simpa using he
     have HE:=aa he;clear he
     go_wp2
     go_quiet (fail)
     go_wp2;go_ret;refine⟨?_,aV hbel _⟩;have:l≠l':=by
      rintro rfl;have:=HZ.o.symm.trans HZ'.o;exact HE.o (by simpa using this)
     simp[this]
   ·go_wp2;go_ret;refine⟨?_,hbel⟩;have:l=l':=by
     apply dM;intro j
     by_cases hj:j<k
     ·exact HA.o j hj
     ·rw[aG (by have:=E1.o;omega),aG (by have:=E2.o;omega)]
    simp[this]
 ·have h1:((n:Int) != (m:Int))=true:=by simpa using (by omega:¬(n:Int)=(m:Int))
  have HN:=aa hlen;clear hlen
  go_enter func316,ntmps316;go_wp2;go_ret;refine⟨?_,aq _ _⟩;have:l≠l':=by
   rintro rfl;exact HN.o (E1.o.symm.trans E2.o)
  simp[this]
theorem JY(A A':Option Addr)(n m c c':Nat)(l l':List Fi)(w:World)(e1:l.length=n)(e2:l'.length=m)(hl:Rd w w.heap.size 5 A n (fis l))(hm:Rd w w.heap.size 5 A' m (fis l'))(hn:n<=4611686018427387904)(hn':m<=4611686018427387904):
  Calls prog 317 #[.slice A n c,.slice A' m c'] w fun e w'=>e= .returned (.bool (decide (l=l')))/\Below w.heap.size w w':=by
 have hgt:=kP
 by_cases hlen:n=m
 ·subst hlen;have E1:=aa e1;have E2:=aa e2;clear e1 e2
  have HL:=aa hl;have HM:=aa hm;clear hl hm
  go_enter func317,ntmps317;go_wp2
  go_loopw [5] (fun i wr=>∃k:Nat,k<=n/\i= .int .i64 k/\(∀j,j<k->l[j]? =l'[j]?)/\Below w.heap.size w wr) (fun i _=>n- (intOf i).toNat)
  case atStart=>exact⟨0,by omega,rfl,fun j hj=>by omega,aq _ _⟩
  case round=>
   obtain⟨k,hk,rfl,hall,hbel⟩:=hrel;have HA:=aa hall;clear hall
   by_cases hlt:k<n
   ·obtain⟨bA,oA,rfl,hb,c0,c1,c2,c3,c4⟩:=(show Rd w w.heap.size 5 A l.length (fis l) by rw[E1.o];exact HL.o).below hbel |>.atF (show k<l.length by rw[E1.o];exact hlt);obtain⟨bA',oA',rfl,hb',d0,d1,d2,d3,d4⟩:=(show Rd w w.heap.size 5 A' l'.length (fis l') by rw[E2.o];exact HM.o).below hbel |>.atF (show k<l'.length by rw[E2.o];exact hlt);have HZ:Hid (l[k]? =some (l[k]'(by rw[E1.o];exact hlt))):=aa (List.getElem?_eq_getElem _);have HZ':Hid (l'[k]? =some (l'[k]'(by rw[E2.o];exact hlt))):=aa (List.getElem?_eq_getElem _);generalize l[k]'(by rw[E1.o];exact hlt)=p at*;generalize l'[k]'(by rw[E2.o];exact hlt)=q at*;have b1:(0:Int)<=(k:Int):=by omega
    have b2:(k:Int)<(n:Int):=by omega
    have hne:=fun W=>wQ p q W
    by_cases he:p=q
    ·subst he;have hd:decide (p=p)=true:=by simp
     rw[hd]at hne;clear hd;go_wp2
     go_quiet (fail)
     go_wp2
     go_roundw
     case rel=>
      refine⟨k+1,by omega,by go_num,fun j hj=>?_,aV hbel _⟩;rcases dx.1 hj with h| rfl
      ·exact HA.o j h
      ·rw[HZ.o,HZ'.o]
     case measure=>simp[intOf];omega
    ·have hd:decide (p=q)=false:=ah he;rw[hd]at hne;have HE:=aa he;clear he hd
     go_wp2
     go_quiet (fail)
     go_wp2;go_ret;refine⟨?_,aV hbel _⟩;have:l≠l':=by
      rintro rfl;have:=HZ.o.symm.trans HZ'.o;exact HE.o (by simpa using this)
     simp[this]
   ·go_wp2;go_ret;refine⟨?_,hbel⟩;have:l=l':=by
     apply dM;intro j
     by_cases hj:j<k
     ·exact HA.o j hj
     ·rw[aG (by have:=E1.o;omega),aG (by have:=E2.o;omega)]
    simp[this]
 ·have h1:((n:Int) != (m:Int))=true:=by simpa using (by omega:¬(n:Int)=(m:Int))
  have HN:=aa hlen;have E1:=aa e1;have E2:=aa e2;clear hlen e1 e2 hl hm
  go_enter func317,ntmps317;go_wp2;go_ret;refine⟨?_,aq _ _⟩;have:l≠l':=by
   rintro rfl;exact HN.o (E1.o.symm.trans E2.o)
  simp[this]
theorem JO(v k:Int)(w:World):Calls prog 132 #[.int .i64 v,.int .i64 k] w fun e w'=>e= .returned (.bool (dS v k))/\w=w':=by
 have HE:Hid (dS v k=decide (1<=k/\(k<=14\/(k=15/\v=5)))):=aa rfl
 by_cases h1:1<=k
 rotate_left
 ·have HX:Hid (dS v k=false):=aa (by rw[HE.o];exact ah (by omega));have d1:decide ((1:Int)<=k)=false:=ah h1;clear h1;go_enter func132,ntmps132;go_wp2;go_ret;exact⟨by rw[HX.o];rfl,rfl⟩
 have d1:decide ((1:Int)<=k)=true:=au h1
 by_cases h14:k<15
 ·have HX:Hid (dS v k=true):=aa (by rw[HE.o];exact au (by omega));have d2:decide (k<(15:Int))=true:=au h14;clear h1 h14;go_enter func132,ntmps132;go_wp2;go_ret;exact⟨by rw[HX.o];rfl,rfl⟩
 have d2:decide (k<(15:Int))=false:=ah h14
 by_cases h15:k=15
 rotate_left
 ·have HX:Hid (dS v k=false):=aa (by rw[HE.o];exact ah (by omega));have d3:(k==15)=false:=ar.2 h15;clear h1 h14 h15;go_enter func132,ntmps132;go_wp2;go_ret;exact⟨by rw[HX.o];rfl,rfl⟩
 have d3:(k==15)=true:=aK.2 h15
 by_cases h5:v=5
 ·have HX:Hid (dS v k=true):=aa (by rw[HE.o];exact au (by omega));have d4:(v==5)=true:=aK.2 h5;clear h1 h14 h15 h5;go_enter func132,ntmps132;go_wp2;go_ret;exact⟨by rw[HX.o];rfl,rfl⟩
 ·have HX:Hid (dS v k=false):=aa (by rw[HE.o];exact ah (by omega));have d4:(v==5)=false:=ar.2 h5;clear h1 h14 h15 h5;go_enter func132,ntmps132;go_wp2;go_ret;exact⟨by rw[HX.o];rfl,rfl⟩
theorem KG(f:Int)(w:World):Calls prog 191 #[.int .i64 3,.int .i64 f] w fun e w'=>e= .returned (.bool (gd f))/\w=w':=by
 by_cases h0:0<=f
 rotate_left
 ·have HX:Hid (gd f=false):=aa (by unfold gd;exact ah (by omega));have d0:decide ((0:Int)<=f)=false:=ah h0;clear h0;go_enter func191,ntmps191;go_wp2;go_ret;exact⟨by rw[HX.o];rfl,rfl⟩
 by_cases h15:f<=15
 rotate_left
 ·have HX:Hid (gd f=false):=aa (by unfold gd;exact ah (by omega));have d1:decide (f<=(15:Int))=false:=ah h15;clear h15;go_enter func191,ntmps191;go_wp2;go_ret;exact⟨by rw[HX.o];rfl,rfl⟩
 have hh:f=0\/f=1\/f=2\/f=3\/f=4\/f=5\/f=6\/f=7\/f=8\/f=9\/f=10\/f=11\/f=12\/f=13\/f=14\/f=15:=by omega
 clear h0 h15;obtain rfl| rfl| rfl| rfl| rfl| rfl| rfl| rfl| rfl| rfl| rfl| rfl| rfl| rfl| rfl| rfl:=hh
 all_goals
  go_enter func191,ntmps191;go_wp2;go_ret;exact⟨by rfl,rfl⟩
theorem Se(v f:Int)(w:World):Calls prog 133 #[.int .i64 v,.agg #[.int .i64 3,.int .i64 f,.int .i64 0]] w fun e w'=>e= .returned (.int .i64 (eJ v f))/\Below w.heap.size w w':=by
 have HE:Hid (eJ v f=if ba v=false then 2 else if gd f=false then 7 else 0):=aa rfl;have HB:=aa ((aq w.heap.size w).alloc (ac _) (.cells #[.int .i64 3,.int .i64 f,.int .i64 0] 112));cases hk:ba v
 ·have HX:Hid (eJ v f=2):=aa (by rw[HE.o,if_pos hk]);have HK:=aa hk;clear hk
  go_enter func133,ntmps133
  go_wp2_with fail
  refine(pS v _).mono ?_;rintro e w1 ⟨rfl,rfl⟩;rw[HK.o];go_wp2;go_ret;exact⟨by rw[HX.o];rfl,HB.o⟩
 have HK:=aa hk;have HKI:Hid (dS v 3=true):=aa (by unfold dS;exact au (by omega));have HX1:Hid (eJ v f=if gd f=false then 7 else 0):=aa (by rw[HE.o,ae (fun x=>by rw[hk]at x;cases x)]);clear hk;cases hf:gd f
 ·have HX:Hid (eJ v f=7):=aa (by rw[HX1.o,if_pos hf]);have HF:=aa hf;clear hf
  go_enter func133,ntmps133
  go_wp2_with fail
  refine(pS v _).mono ?_;rintro e w1 ⟨rfl,rfl⟩;rw[HK.o]
  go_wp2_with fail
  refine(JO v 3 _).mono ?_;rintro e w1 ⟨rfl,rfl⟩;rw[HKI.o]
  go_wp2_with fail
  refine(KG f _).mono ?_;rintro e w1 ⟨rfl,rfl⟩;rw[HF.o];go_wp2;go_ret;exact⟨by rw[HX.o];rfl,HB.o⟩
 ·have HX:Hid (eJ v f=0):=aa (by rw[HX1.o,ae (fun x=>by rw[hf]at x;cases x)]);have HF:=aa hf;clear hf
  go_enter func133,ntmps133
  go_wp2_with fail
  refine(pS v _).mono ?_;rintro e w1 ⟨rfl,rfl⟩;rw[HK.o]
  go_wp2_with fail
  refine(JO v 3 _).mono ?_;rintro e w1 ⟨rfl,rfl⟩;rw[HKI.o]
  go_wp2_with fail
  refine(KG f _).mono ?_;rintro e w1 ⟨rfl,rfl⟩;rw[HF.o];go_wp2;go_ret;exact⟨by rw[HX.o];rfl,HB.o⟩
def Hq(v kind:Int)(l:List Pr):ByteArray:=if v=4 then⟨#[]⟩else⟨(aM kind l).1.toArray⟩
theorem G5(v kind:Int)(l:List Pr)(n:Nat)(hn:l.length=n)(hg:∀p∈l,ea p)(A:Option Addr)(c:Nat)(w:World)(h:Rd w w.heap.size 4 A n (prs l))(hl:n<=4611686018427387904)(hc:n<=c):
  Calls prog 252 #[.int .i64 v,.int .i64 kind,.slice A n c] w fun e w'=>e= .returned (.string (Hq v kind l))/\Below w.heap.size w w':=by
 have H:=aa h;clear h
 by_cases h4:v=4
 ·have HX:Hid (Hq v kind l=⟨#[]⟩):=aa (if_pos h4);have e4:(v==4)=true:=aK.2 h4;clear h4;go_enter func252,ntmps252;go_wp2;go_ret;exact⟨by rw[HX.o];rfl,aq _ _⟩
 ·have HX:Hid (Hq v kind l=⟨(aM kind l).1.toArray⟩):=aa (ae h4);have e4:(v==4)=false:=ar.2 h4;have HN:=aa hn;have HG:=aa hg
  clear h4 hn hg;go_enter func252,ntmps252
  go_wp2_with fail
  refine(KI kind l n HN.o HG.o A c _ H.o hl hc).mono ?_;rintro e w1 ⟨rfl,hb⟩;have HB:=aa hb;clear hb
  go_wp2;go_ret;exact⟨by rw[HX.o];rfl,HB.o⟩
def GI(v kind:Int)(l:List Pr):Int:=if v=4 then(if 0<l.length then 2 else 0)else(aM kind l).2
theorem Gx(v kind:Int)(l:List Pr)(n:Nat)(hn:l.length=n)(hg:∀p∈l,ea p)(A:Option Addr)(c:Nat)(w:World)(h:Rd w w.heap.size 4 A n (prs l))(hl:n<=4611686018427387904)(hc:n<=c):
  Calls prog 242 #[.int .i64 v,.int .i64 kind,.slice A n c] w fun e w'=>e= .returned (.int .i64 (GI v kind l))/\Below w.heap.size w w':=by
 have H:=aa h;clear h
 have HN:=aa hn;have HG:=aa hg
 by_cases h4:v=4
 ·have e4:(v==4)=true:=aK.2 h4
  by_cases h0:0<n
  ·have HX:Hid (GI v kind l=2):=aa (by unfold GI;rw[if_pos h4,if_pos (by omega)]);have d0:decide ((0:Int)<(n:Int))=true:=au (by omega);have d1:decide (0<n)=true:=au h0;clear h4 h0 hn hg;go_enter func242,ntmps242;go_wp2;go_ret;exact⟨by rw[HX.o];rfl,aq _ _⟩
  ·have HX:Hid (GI v kind l=0):=aa (by unfold GI;rw[if_pos h4,ae (by omega)]);have d0:decide ((0:Int)<(n:Int))=false:=ah (by omega);have d1:decide (0<n)=false:=ah h0;clear h4 h0 hn hg;go_enter func242,ntmps242;go_wp2;go_ret;exact⟨by rw[HX.o];rfl,aq _ _⟩
 ·have HX:Hid (GI v kind l=(aM kind l).2):=aa (ae h4);have e4:(v==4)=false:=ar.2 h4;clear h4 hn hg;go_enter func242,ntmps242
  go_wp2_with fail
  refine(Hv kind l n HN.o HG.o A c _ H.o hl hc).mono ?_;rintro e w1 ⟨rfl,hb⟩;have HB:=aa hb;clear hb
  go_wp2;go_ret;exact⟨by rw[HX.o];rfl,HB.o⟩
def QK(v kind:Int)(t:ByteArray)(a:Nat)(e:Int):List Pr×Nat×Int:=
 if v=4\/e≠0 then([],a,e)else((aZ kind (t.extract a t.size)).1,a+(aZ kind (t.extract a t.size)).2.1,(aZ kind (t.extract a t.size)).2.2)
def TA(g:Nat)(t:ByteArray)(r:List Pr×Nat×Int)(w:World)(e:Ending)(w':World):Prop:=
 ∃A c,e= .returned (.slice A r.1.length c)/\r.1.length<=c/\Rd w' w'.heap.size 4 A r.1.length (prs r.1)/\IC w' g t r.2.1 r.2.2/\w.grownBy w' (some g)
theorem Io(t:ByteArray)(a:Nat)(e:Int):∀(i:Nat) (n:Int),(Am t a e)[i]? ≠some (Value.int IntKind.u32 n):=gw t a e
theorem QD(v kind:Int)(g a:Nat)(t:ByteArray)(e:Int)(w:World)(h:IC w g t a e)(ht:t.size<=140737488351232):
  Calls prog 205 #[.int .i64 v,.int .i64 kind,.pointer (some ⟨g,0,none⟩)] w (TA g t (QK v kind t a e) w):=by
 have H:=aa h;have HT:=aa ht
 obtain⟨⟨c0,c1,c2⟩,f0,f1,f2⟩:=h.cells;have HLE:=aa h.2.1;clear h
 by_cases h4:v=4
 ·have HX:Hid (QK v kind t a e=([],a,e)):=aa (if_pos (.inl h4));have e4:(v==4)=true:=aK.2 h4;clear h4;go_enter func205,ntmps205;go_wp2;go_ret;exact⟨none,0,by rw[HX.o];rfl,by rw[HX.o];exact ac _,by rw[HX.o];exact Rd.nil _ _ _ _,by rw[HX.o];exact H.o,lz _ _⟩
 have e4:(v==4)=false:=ar.2 h4
 by_cases he:e=0
 rotate_left
 ·have HX:Hid (QK v kind t a e=([],a,e)):=aa (if_pos (.inr he));have e0:(e !=0)=true:=aA.2 he;clear h4 he;go_enter func205,ntmps205;go_wp2;go_ret;exact⟨none,0,by rw[HX.o];rfl,by rw[HX.o];exact ac _,by rw[HX.o];exact Rd.nil _ _ _ _,by rw[HX.o];exact H.o,lz _ _⟩
 subst he;have HX:Hid (QK v kind t a 0=((aZ kind (t.extract a t.size)).1,a+(aZ kind (t.extract a t.size)).2.1,(aZ kind (t.extract a t.size)).2.2)):=aa (ae (by simpa using h4));have hz:(t.extract a t.size).size=t.size- a:=by rw[aj];omega
 have HZ:Hid ((t.extract a t.size).size<=140737488351232):=aa (by omega);have HAT:Hid (a+(aZ kind (t.extract a t.size)).2.1<=t.size):=aa (by have:=Bt kind (t.extract a t.size);have:=HLE.o;omega);clear h4 hz;go_enter func205,ntmps205
 go_wp2_with fail
 refine(QZ g a t 0 _ H.o).mono ?_;rintro e w1 ⟨rfl,hb⟩;have HB:=aa hb;have H1:=aa (H.o.below hb)
 clear hb
 go_wp2_with fail
 refine(Sk kind _ _ HZ.o).mono ?_;rintro e w2 ⟨A,c,rfl,hk,hr,hb⟩;have HK:=aa hk;have HR:=aa hr
 have HB2:=aa (HB.o.trans (hb.mono HB.o.size));have H2:=aa (H1.o.below hb)
 clear hk hr hb c0 c1 c2 f0 f1 f2;generalize aZ kind (t.extract a t.size)=R at*;obtain⟨q,n,E⟩:=R;simp only at HX HK HR HAT⊢;obtain⟨⟨c0,c1,c2⟩,f0,f1,f2⟩:=H2.o.cells;have w9:IntKind.i64.wrap ((a:Int)+(n:Int))=(a:Int)+(n:Int):=by rw[aQ];have:=HAT.o;have:=HT.o;omega
 have C3:=aa (show IC ((w2.setCell ⟨g,2,none⟩ (.int .i64 E)).setCell ⟨g,1,none⟩ (.int .i64 ((a:Int)+(n:Int)))) g t (a+n) E from⟨(H2.o.1.upd 2 (.int .i64 E) (cs':=Am t a E) (by simp[Am])).upd 1 _ (by simp[Am]),HAT.o,H2.o.2.2⟩);have G3:=aa ((cP w2 g 2 (.int .i64 E)).trans (cP _ g 1 (.int .i64 ((a:Int)+(n:Int)))));go_wp2;go_ret;refine⟨A,c,by rw[HX.o];rfl,by rw[HX.o];exact HK.o,?_,by rw[HX.o];exact C3.o,(hJ HB2.o (some g)).trans G3.o⟩;rw[HX.o];exact(HR.o.other H2.o.1 (Io _ _ _) G3.o (ac _)).wider G3.o.size
section
attribute [local go_sem ↓] bD bF bH bI bu
attribute [local go_sem] bc aD bh bg bK bJ bd aY be aO ax cI dC dB dt dj di dA dr dp dn bW co bO bZ bX cz cy cw cu ct cC cn bS bP bR
theorem Im(W:World)(t:TypeId)(a b:Array Value):Bk ((W.alloc (.cells a t)).alloc (.cells b t)).drew W.heap.size t a/\Bk ((W.alloc (.cells a t)).alloc (.cells b t)).drew (W.heap.size+1) t b/\Below W.heap.size W ((W.alloc (.cells a t)).alloc (.cells b t)).drew:=by
 refine⟨((Bk.fresh W t a).alloc _).drewN 1,?_,aV (((aq _ _).alloc (ac _) _).alloc (by simp) _) 1⟩;have h:=(Bk.fresh (W.alloc (.cells a t)) t b).drewN 1;rw[bi]at h;exact h
theorem Ha{w:World}{g:Nat}{x:Wl}{h:Hd}(b:Bk w g WlT (wlC x h)):w.cell? ⟨g,0,none⟩=some (.string x.topic)/\w.cell? ⟨g,1,none⟩=some (.string x.payload)/\w.cell? ⟨g,2,none⟩=some (.int .i64 x.qos)/\w.cell? ⟨g,3,none⟩=some (.bool x.retain)/\w.cell? ⟨g,4,none⟩=some (.slice h.a x.props.length h.c):=
 ⟨b.cell 0,b.cell 1,b.cell 2,b.cell 3,b.cell 4⟩
theorem GP(p q:Pk)(h k:Hs)(w:World)(ip:PkIn w w.heap.size p h)(iq:PkIn w w.heap.size q k)(lp:gz p)(lq:gz q):
  Calls prog 243 #[pkV p h,pkV q k] w fun e w'=>e= .returned (.bool (decide (p=q)))/\Below w.heap.size w w':=by
 have hb2:=ic w (.cells (pkC p h) PkT) (.cells (pkC q k) PkT);have B1:Bk ((w.alloc (.cells (pkC p h) PkT)).alloc (.cells (pkC q k) PkT)) w.heap.size PkT (pkC p h):=(Bk.fresh w PkT (pkC p h)).alloc _;have B2:Bk ((w.alloc (.cells (pkC p h) PkT)).alloc (.cells (pkC q k) PkT)) (w.heap.size+1) PkT (pkC q k):=by
  simpa using Bk.fresh (w.alloc (.cells (pkC p h) PkT)) PkT (pkC q k)
 have HP:=aa (And.intro ip (And.intro iq (And.intro lp lq)));have HB:=aa hb2;have H1:=aa B1;have H2:=aa B2
 have HQ:=aa (nQ p q);clear ip iq lp lq hb2;have k1:=fun i=>B1.cell i;have k2:=fun i=>B2.cell i;clear B1 B2;go_enter func243,ntmps243
 go_wp2_with fail
 obtain⟨W,hW⟩:∃W,((w.alloc (.cells (pkC p h) PkT)).alloc (.cells (pkC q k) PkT))=W:=⟨_,rfl⟩;have hWs:W.heap.size=w.heap.size+2:=by rw[<-hW];simp
 rw[hW]at k1 k2 HB H1 H2⊢;have HWS:=aa hWs;have l1:w.heap.size<W.heap.size:=by omega
 have l2:w.heap.size+1<W.heap.size:=by omega
 clear hW hWs
 go_cut [5,6] (fun v5 v6 x=>∃g5 g6,v5= .pointer (some ⟨g5,0,none⟩)/\v6= .pointer (some ⟨g6,0,none⟩)/\Bk x g5 WlT (wlC p.will h.wp)/\Bk x g6 WlT (wlC q.will k.wp)/\Below W.heap.size W x)
 case first=>
  have j1:=k1 15;have j2:=k1 16;have j3:=k1 17;have j4:=k1 18;have j5:=k1 19
  have m1:=k2 15;have m2:=k2 16;have m3:=k2 17;have m4:=k2 18;have m5:=k2 19
  rw[cz]at j1 m1;rw[cy]at j2 m2;rw[cw]at j3 m3;rw[cu]at j4 m4;rw[ct]at j5 m5;clear k1 k2
  go_region_law (fail)
  all_goals
   go_wp2
   go_meet
   case rel=>first| exact⟨_,_,rfl,rfl,(Im W _ _ _).1,(Im W _ _ _).2.1,(Im W _ _ _).2.2⟩ | exact⟨_,_,rfl,rfl,(Im W _ _ _).2.1,(Im W _ _ _).1,(Im W _ _ _).2.2⟩
 case rest=>
  obtain⟨g5,g6,rfl,rfl,b5,b6,hbx⟩:=hcut;have HX:=aa hbx;have H1x:=aa (H1.o.below hbx l1);have H2x:=aa (H2.o.below hbx l2)
  have HBX:=aa (HB.o.trans (hbx.mono HB.o.size));clear k1 k2 hbx l1 l2;have k1:=fun i=>H1x.o.cell i;have k2:=fun i=>H2x.o.cell i;have C0:=aa (JE h.wp.a k.wp.a p.will.props.length q.will.props.length h.wp.c k.wp.c p.will.props q.will.props _ rfl rfl (HP.o.1.next HBX.o).wp (HP.o.2.1.next HBX.o).wp HP.o.2.2.1.1 HP.o.2.2.2.1);have D5:=aa b5;have D6:=aa b6
  clear b5 b6
  by_cases dtopic:p.will.topic=q.will.topic
  rotate_left
  ·have HF:Hid (decide (p=q)=false):=aa (ah (fun x=>dtopic (by rw[x])));have x1:¬(p.will.topic.toList=q.will.topic.toList):=fun x=>dtopic ((toList_inj _ _).1 x);have x2:(p.will.topic.toList==q.will.topic.toList)=false:=ar.2 x1;have x3:(p.will.topic.toList !=q.will.topic.toList)=true:=aA.2 x1;obtain⟨n0,n1,n2,n3,n4⟩:=Ha D5.o;obtain⟨o0,o1,o2,o3,o4⟩:=Ha D6.o;clear dtopic;go_wp2;go_ret;exact⟨by rw[HF.o];rfl,HBX.o⟩
  by_cases dpayload:p.will.payload=q.will.payload
  rotate_left
  ·have HF:Hid (decide (p=q)=false):=aa (ah (fun x=>dpayload (by rw[x])));have x1:¬(p.will.payload.toList=q.will.payload.toList):=fun x=>dpayload ((toList_inj _ _).1 x);have x2:(p.will.payload.toList==q.will.payload.toList)=false:=ar.2 x1;have x3:(p.will.payload.toList !=q.will.payload.toList)=true:=aA.2 x1;obtain⟨n0,n1,n2,n3,n4⟩:=Ha D5.o;obtain⟨o0,o1,o2,o3,o4⟩:=Ha D6.o;rw[<-dtopic]at o0;clear dpayload dtopic;go_wp2;go_ret;exact⟨by rw[HF.o];rfl,HBX.o⟩
  by_cases dqos:p.will.qos=q.will.qos
  rotate_left
  ·have HF:Hid (decide (p=q)=false):=aa (ah (fun x=>dqos (by rw[x])));have x2:(p.will.qos==q.will.qos)=false:=ar.2 dqos;have x3:(p.will.qos !=q.will.qos)=true:=aA.2 dqos;obtain⟨n0,n1,n2,n3,n4⟩:=Ha D5.o;obtain⟨o0,o1,o2,o3,o4⟩:=Ha D6.o;rw[<-dtopic]at o0;rw[<-dpayload]at o1;clear dqos dtopic dpayload;go_wp2;go_ret;exact⟨by rw[HF.o];rfl,HBX.o⟩
  by_cases dretain:p.will.retain=q.will.retain
  rotate_left
  ·have HF:Hid (decide (p=q)=false):=aa (ah (fun x=>dretain (by rw[x])));have x2:(p.will.retain==q.will.retain)=false:=ar.2 dretain;have x3:(p.will.retain !=q.will.retain)=true:=aA.2 dretain;obtain⟨n0,n1,n2,n3,n4⟩:=Ha D5.o;obtain⟨o0,o1,o2,o3,o4⟩:=Ha D6.o;rw[<-dtopic]at o0;rw[<-dpayload]at o1;rw[<-dqos]at o2;clear dretain dtopic dpayload dqos;go_wp2;go_ret;exact⟨by rw[HF.o];rfl,HBX.o⟩
  by_cases dprops:p.will.props=q.will.props
  rotate_left
  ·have HF:Hid (decide (p=q)=false):=aa (ah (fun x=>dprops (by rw[x])));have DP:=aa (ah dprops);obtain⟨n0,n1,n2,n3,n4⟩:=Ha D5.o;obtain⟨o0,o1,o2,o3,o4⟩:=Ha D6.o;rw[<-dtopic]at o0;rw[<-dpayload]at o1;rw[<-dqos]at o2;rw[<-dretain]at o3;clear dprops dtopic dpayload dqos dretain
   go_wp2_with fail
   refine C0.o.mono ?_;rintro e w3 ⟨rfl,hb⟩;rw[DP.o];have HB3:=aa (HBX.o.trans (hb.mono HBX.o.size));clear hb
   go_wp2;go_ret;exact⟨by rw[HF.o];rfl,HB3.o⟩
  have DP:=aa (au dprops);have DW:Hid (p.will=q.will):=aa (nC _ _ |>.2 ⟨dtopic,dpayload,dqos,dretain,dprops⟩);obtain⟨n0,n1,n2,n3,n4⟩:=Ha D5.o;obtain⟨o0,o1,o2,o3,o4⟩:=Ha D6.o;rw[<-dtopic]at o0;rw[<-dpayload]at o1;rw[<-dqos]at o2;rw[<-dretain]at o3;clear dprops dtopic dpayload dqos dretain
  go_wp2_with fail
  refine C0.o.mono ?_;rintro e w3 ⟨rfl,hb⟩;rw[DP.o];have HB3:=aa (HBX.o.trans (hb.mono HBX.o.size));have H13:=aa (H1x.o.below hb H1x.o.lt);have H23:=aa (H2x.o.below hb H2x.o.lt)
  clear hb k1 k2 n0 n1 n2 n3 n4 o0 o1 o2 o3 o4;have k1:=fun i=>H13.o.cell i;have k2:=fun i=>H23.o.cell i
  go_wp2_with (first
   | (go_at_call 316;refine(LM h.codes.a k.codes.a p.codes.length q.codes.length h.codes.c k.codes.c p.codes q.codes _ (HP.o.1.next HB3.o).codes (HP.o.2.1.next HB3.o).codes (aC HP.o.2.2.1.2.1 (by decide)) (aC HP.o.2.2.2.2.1 (by decide))).mono ?_;rintro e w4 ⟨rfl,hb4⟩;have HB4:=aa (HB3.o.trans (hb4.mono HB3.o.size));have H14:=aa (H13.o.below hb4 H13.o.lt);have H24:=aa (H23.o.below hb4 H23.o.lt);clear hb4 k1 k2;have k1:=fun i=>H14.o.cell i;have k2:=fun i=>H24.o.cell i)
   | (go_at_call 317;refine(JY h.filters.a k.filters.a p.filters.length q.filters.length h.filters.c k.filters.c p.filters q.filters _ rfl rfl (HP.o.1.next HB4.o).filters (HP.o.2.1.next HB4.o).filters HP.o.2.2.1.2.2.1 HP.o.2.2.2.2.2.1).mono ?_;rintro e w5 ⟨rfl,hb5⟩;have HB5:=aa (HB4.o.trans (hb5.mono HB4.o.size));have H15:=aa (H14.o.below hb5 H14.o.lt);have H25:=aa (H24.o.below hb5 H24.o.lt);clear hb5 k1 k2;have k1:=fun i=>H15.o.cell i;have k2:=fun i=>H25.o.cell i)
   | (go_at_call 315;refine(JE h.props.a k.props.a p.props.length q.props.length h.props.c k.props.c p.props q.props _ rfl rfl (HP.o.1.next HB5.o).props (HP.o.2.1.next HB5.o).props HP.o.2.2.1.2.2.2 HP.o.2.2.2.2.2.2).mono ?_;rintro e w6 ⟨rfl,hb6⟩;have HB6:=aa (HB5.o.trans (hb6.mono HB5.o.size));clear hb6))
  all_goals
   go_ret;refine⟨eT ?_,by first| exact HB6.o| exact HB5.o| exact HB4.o| exact HB3.o⟩;have DW:=DW.o;have HQ:=HQ.o
   clear HB HB3 k1 k2
   by_cases hpq:p=q
   ·subst hpq
    simp_all
   ·rw[ah hpq]
    first| done| (rw[HQ]at hpq;clear HQ;simp_all[toList_inj])
theorem JX(k f:Int)(w:World):Calls prog 191 #[.int .i64 k,.int .i64 f] w fun e w'=>e= .returned (.bool (eu k f))/\w=w':=by
 by_cases h3:k=3
 ·subst h3;rw[show eu 3 f=gd f from if_pos rfl];exact KG f w
 have q3:(k==3)=false:=ar.2 h3;have HX0:Hid (eu k f=decide (f=gg k)):=aa (ae h3);clear h3
 by_cases h2:k=6\/k=8\/k=10
 ·have HF:Hid (gg k=2):=aa (if_pos h2);have HQ:Hid (eu k f=(f==2)):=aa (by rw[HX0.o,HF.o];by_cases e:f=2<;>simp[e]);clear HF HX0;obtain⟨b,hb⟩:∃b,(f==2)=b:=⟨_,rfl⟩;rw[hb]at HQ;rcases h2 with rfl| rfl| rfl
  all_goals
   clear q3;go_enter func191,ntmps191;go_wp2;go_ret;exact⟨by rw[HQ.o];rfl,rfl⟩
 ·have HF:Hid (gg k=0):=aa (ae h2);have HQ:Hid (eu k f=(f==0)):=aa (by rw[HX0.o,HF.o];by_cases e:f=0<;>simp[e]);have q6:(k==6)=false:=ar.2 (by omega);have q8:(k==8)=false:=ar.2 (by omega);have q10:(k==10)=false:=ar.2 (by omega);clear HF HX0 h2;obtain⟨b,hb⟩:∃b,(f==0)=b:=⟨_,rfl⟩;rw[hb]at HQ;go_enter func191,ntmps191;go_wp2;go_ret;exact⟨by rw[HQ.o];rfl,rfl⟩
theorem Lr(v k f:Int)(n:Nat)(w:World)(hn:n<=268435455):Calls prog 133 #[.int .i64 v,Cx ⟨k,f,n⟩] w fun e w'=>e= .returned (.int .i64 (ff v k f))/\Below w.heap.size w w':=by
 have HE:Hid (ff v k f=if ba v=false then 2 else if dS v k=false then 8 else if eu k f=false then 7 else 0):=aa rfl;have HB:=aa ((aq w.heap.size w).alloc (ac _) (.cells #[.int .i64 k,.int .i64 f,.int .i64 n] 112));have HN:=aa hn;clear hn;show Calls _ _ #[.int .i64 v,.agg #[.int .i64 k,.int .i64 f,.int .i64 n]] _ _;go_enter func133,ntmps133
 go_wp2_with fail
 refine(pS v _).mono ?_;rintro e w1 ⟨rfl,rfl⟩;cases hk:ba v
 ·have HX:Hid (ff v k f=2):=aa (by rw[HE.o,if_pos hk]);clear hk;go_wp2;go_ret;exact⟨by rw[HX.o];rfl,HB.o⟩
 have HE1:Hid (ff v k f=if dS v k=false then 8 else if eu k f=false then 7 else 0):=aa (by rw[HE.o,ae (fun x=>by rw[hk]at x;cases x)]);clear hk HE;have k1:(w.alloc (.cells #[.int .i64 k,.int .i64 f,.int .i64 n] 112)).cell? ⟨w.heap.size,0,none⟩=some (.int .i64 k):=(Bk.fresh w 112 _).cell 0;have k2:(w.alloc (.cells #[.int .i64 k,.int .i64 f,.int .i64 n] 112)).cell? ⟨w.heap.size,1,none⟩=some (.int .i64 f):=(Bk.fresh w 112 _).cell 1;have k3:(w.alloc (.cells #[.int .i64 k,.int .i64 f,.int .i64 n] 112)).cell? ⟨w.heap.size,2,none⟩=some (.int .i64 n):=(Bk.fresh w 112 _).cell 2
 go_wp2_with fail
 refine(JO v k _).mono ?_;rintro e w1 ⟨rfl,rfl⟩;cases hk:dS v k
 ·have HX:Hid (ff v k f=8):=aa (by rw[HE1.o,if_pos hk]);clear hk;go_wp2;go_ret;exact⟨by rw[HX.o];rfl,HB.o⟩
 have HE2:Hid (ff v k f=if eu k f=false then 7 else 0):=aa (by rw[HE1.o,ae (fun x=>by rw[hk]at x;cases x)]);clear hk HE1
 go_wp2_with fail
 refine(JX k f _).mono ?_;rintro e w1 ⟨rfl,rfl⟩;cases hk:eu k f
 ·have HX:Hid (ff v k f=7):=aa (by rw[HE2.o,if_pos hk]);clear hk;go_wp2;go_ret;exact⟨by rw[HX.o];rfl,HB.o⟩
 have HX:Hid (ff v k f=0):=aa (by rw[HE2.o,ae (fun x=>by rw[hk]at x;cases x)]);have d1:decide ((n:Int)<0)=false:=ah (by omega);have d2:decide ((268435455:Int)<(n:Int))=false:=ah (by have:=HN.o;omega);clear hk HE2;go_wp2;go_ret;exact⟨by rw[HX.o];rfl,HB.o⟩
theorem Q8(v:Int)(s:ByteArray)(w:World)(hs:s.size<=1000000000000):Calls prog 90 #[.int .i64 v,.string s] w fun e w'=>e= .returned (.tuple #[Cx (hdR v s).1,.int .i64 ((hdR v s).2.1:Nat),.int .i64 (hdR v s).2.2])/\Below w.heap.size w w':=by
 have HE:Hid (hdR v s=if ba v=false then(lC,0,2)
  else if s.size=0 then(lC,0,3)
  else if ff v (cU s/ 16:Nat) (cU s% 16:Nat)≠0 then(lC,0,ff v (cU s/ 16:Nat) (cU s% 16:Nat))
  else if(bm (ls (s.extract 1 s.size))).2.2≠0 then(lC,0,(bm (ls (s.extract 1 s.size))).2.2)
  else(⟨(cU s/ 16:Nat),(cU s% 16:Nat),(bm (ls (s.extract 1 s.size))).1⟩,(bm (ls (s.extract 1 s.size))).2.1+1,0)):=aa rfl
 have HS:=aa hs;have HB:=aa ((aq w.heap.size w).alloc (ac _) (.cells #[.int .i64 0,.int .i64 0,.int .i64 0] 112));have HK:=aa (Bk.fresh w 112 #[.int .i64 0,.int .i64 0,.int .i64 0]);clear hs;go_enter func90,ntmps90
 go_wp2_with fail
 refine(pS v _).mono ?_;rintro e w1 ⟨rfl,rfl⟩;cases hk:ba v
 ·have HX:Hid (hdR v s=(lC,0,2)):=aa (by rw[HE.o,if_pos hk]);clear hk;go_wp2;refine av (jF rfl _ rfl HK.o) rfl ?_;exact⟨by rw[HX.o];rfl,HB.o⟩
 by_cases h0:s.size=0
 ·have HX:Hid (hdR v s=(lC,0,3)):=aa (by rw[HE.o,ae (fun x=>by rw[hk]at x;cases x),if_pos h0]);have em:=kR s;rw[au h0]at em;clear hk h0;go_wp2;refine av (jF rfl _ rfl HK.o) rfl ?_;exact⟨by rw[HX.o];rfl,HB.o⟩
 have hpos0:0<s.size:=by omega
 obtain⟨b,hb⟩:∃b,s[0]'hpos0=b:=⟨_,rfl⟩;have HBY:Hid (cU s=b.toNat):=aa (by
  unfold cU;rw[List.headD_eq_head?_getD,List.head?_eq_getElem?,List.getElem?_eq_getElem (by rw[aN];omega),uY s 0 (by omega),hb];rfl)
 have HE1:Hid (hdR v s=if ff v (cU s/ 16:Nat) (cU s% 16:Nat)≠0 then(lC,0,ff v (cU s/ 16:Nat) (cU s% 16:Nat))
  else if(bm (ls (s.extract 1 s.size))).2.2≠0 then(lC,0,(bm (ls (s.extract 1 s.size))).2.2)
  else(⟨(cU s/ 16:Nat),(cU s% 16:Nat),(bm (ls (s.extract 1 s.size))).1⟩,(bm (ls (s.extract 1 s.size))).2.1+1,0)):=aa (by rw[HE.o,ae (fun x=>by rw[hk]at x;cases x),ae h0])
 have hpos:(0:Int)<(s.size:Int):=by omega
 have em:=kR s;rw[ah h0]at em;have hb8:=b.toNat_lt;have HPOS:Hid (1<=s.size):=aa (by omega);clear hk HE h0
 go_wp2_with fail
 go_region
 have HX0:Hid (∃kn fn:Nat,b.toNat/ 16=kn/\b.toNat% 16=fn):=aa ⟨_,_,rfl,rfl⟩;obtain⟨kn,fn,hkn,hfn⟩:=HX0.o;rw[show((b.toNat:Int) / 16)=(kn:Int) by omega,show((b.toNat:Int) % 16)=(fn:Int) by omega];have HE2:Hid (hdR v s=if ff v kn fn≠0 then(lC,0,ff v kn fn)
  else if(bm (ls (s.extract 1 s.size))).2.2≠0 then(lC,0,(bm (ls (s.extract 1 s.size))).2.2)
  else(⟨kn,fn,(bm (ls (s.extract 1 s.size))).1⟩,(bm (ls (s.extract 1 s.size))).2.1+1,0)):=aa (by rw[HE1.o,HBY.o,hkn,hfn])
 obtain⟨W0,hW0⟩:∃W0,((w.alloc (.cells #[.int .i64 0,.int .i64 0,.int .i64 0] 112)).alloc (.cells #[.int .i64 kn,.int .i64 fn,.int .i64 0] 112)).drew=W0:=⟨_,rfl⟩;have HB1:Hid (Below w.heap.size w W0):=aa (by rw[<-hW0];exact aV (HB.o.alloc HB.o.size _) 1);have HR1:Hid (Bk W0 w.heap.size 112 #[.int .i64 0,.int .i64 0,.int .i64 0]):=aa (by rw[<-hW0];exact(HK.o.alloc _).drewN 1);have HK1:Hid (Bk W0 (w.heap.size+1) 112 #[.int .i64 kn,.int .i64 fn,.int .i64 0]):=aa (by
  rw[<-hW0];have:=(Bk.fresh (w.alloc (.cells #[.int .i64 0,.int .i64 0,.int .i64 0] 112)) 112 #[.int .i64 kn,.int .i64 fn,.int .i64 0]).drewN 1;rwa[show(w.alloc (.cells #[.int .i64 0,.int .i64 0,.int .i64 0] 112)).heap.size=w.heap.size+1 by simp]at this)
 rw[hW0];have HCK:=aa (fun W=>Lr v kn fn 0 W (by omega));simp only[Cx]at HCK;clear HX0 HE1 HBY hkn hfn hb hb8 HK HB em hW0;have c0:=HK1.o.cell 0;have c1:=HK1.o.cell 1;have c2:=HK1.o.cell 2
 simp only[ay,aE,aB]at c0 c1 c2
 go_wp2_with fail
 refine(HCK.o _).mono ?_;rintro e w1 ⟨rfl,hb⟩;have HB2:=aa (HB1.o.trans (hb.mono HB1.o.size));have HK2:=aa (HK1.o.below hb HK1.o.lt);have HR2:=aa (HR1.o.below hb HR1.o.lt);clear hb c0 c1 c2 HCK HK1 HB1 HR1;have r0:=HR2.o.cell 0;have r1:=HR2.o.cell 1;have r2:=HR2.o.cell 2
 have q0:=HR2.o.free 0;have q1:=HR2.o.free 1;have q2:=HR2.o.free 2
 simp only[ay,aE,aB]at r0 r1 r2
 by_cases hc:ff v kn fn=0
 rotate_left
 ·have HX:Hid (hdR v s=(lC,0,ff v kn fn)):=aa (by rw[HE2.o,if_pos hc]);generalize ff v kn fn=x at*;have e0:(x !=0)=true:=aA.2 hc;clear hc HE2;go_wp2;refine av (jF rfl _ rfl (((HR2.o.put 0 (.int .i64 0)).put 1 (.int .i64 0)).put 2 (.int .i64 0))) rfl ?_;exact⟨by rw[HX.o];rfl,((HB2.o.setCell (ac _) _).setCell (ac _) _).setCell (ac _) _⟩
 rw[hc];have HE3:Hid (hdR v s=if(bm (ls (s.extract 1 s.size))).2.2≠0 then(lC,0,(bm (ls (s.extract 1 s.size))).2.2)
  else(⟨kn,fn,(bm (ls (s.extract 1 s.size))).1⟩,(bm (ls (s.extract 1 s.size))).2.1+1,0)):=aa (by rw[HE2.o,ae (fun x=>x hc)])
 clear hc HE2 r0 r1 r2 q0 q1 q2;have v1:(0:Int)<=1:=by decide
 have v2:(1:Int)<=(s.size:Int):=by have:=HPOS.o;omega
 have HRV:=aa (fun W=>QM (s.extract 1 s.size) W (by rw[aj];have:=HS.o;omega));have HLT:=aa (jH (ls (s.extract 1 s.size)));rw[aN,aj]at HLT
 go_wp2_with fail
 refine(HRV.o _).mono ?_;rintro e w2 ⟨rfl,rfl⟩;obtain⟨⟨rn,ra,re⟩,hr⟩:∃r,bm (ls (s.extract 1 s.size))=r:=⟨_,rfl⟩;rw[hr]at HE3 HLT⊢;dsimp only at HLT⊢;clear hr HRV;have r0:=HR2.o.cell 0;have r1:=HR2.o.cell 1;have r2:=HR2.o.cell 2
 have q0:=HR2.o.free 0;have q1:=HR2.o.free 1;have q2:=HR2.o.free 2
 simp only[ay,aE,aB]at r0 r1 r2
 by_cases hz:re=0
 rotate_left
 ·have HX:Hid (hdR v s=(lC,0,re)):=aa (by rw[HE3.o,if_pos hz]);have e0:(re !=0)=true:=aA.2 hz;clear HE3 hz;go_wp2;refine av (jF rfl _ rfl (((HR2.o.put 0 (.int .i64 0)).put 1 (.int .i64 0)).put 2 (.int .i64 0))) rfl ?_;exact⟨by rw[HX.o];rfl,((HB2.o.setCell (ac _) _).setCell (ac _) _).setCell (ac _) _⟩
 have HX:Hid (hdR v s=(⟨kn,fn,rn⟩,ra+1,0)):=aa (by rw[HE3.o,ae (fun x=>x hz)]);subst hz;have hra:wrap64 (1+(ra:Int))=((ra+1:Nat):Int):=by have:=HLT.o;have:=HS.o;unfold wrap64;omega
 clear HE3 r0 r1 r2 q0 q1 q2;have c2:=HK2.o.cell 2;have f2:=HK2.o.free 2;simp only[ay,aE,aB]at c2
 go_upto_region 13 with fail
 have HB4:=aa (HB2.o.setCell (p:=⟨w.heap.size+1,2,none⟩) (IT _) (.int .i64 rn));have HK4:=aa (HK2.o.put 2 (.int .i64 rn));have HR4:=aa (HR2.o.other (p:=⟨w.heap.size+1,2,none⟩) (by simp) (.int .i64 rn));clear HB2 HK2 HR2 c2 f2;generalize w1.setCell ⟨w.heap.size+1,2,none⟩ (.int .i64 rn)=W9 at*;have c0:=HK4.o.cell 0;have c1:=HK4.o.cell 1;have c2:=HK4.o.cell 2
 have r0:=HR4.o.cell 0;have r1:=HR4.o.cell 1;have r2:=HR4.o.cell 2
 have q0:=HR4.o.free 0;have q1:=HR4.o.free 1;have q2:=HR4.o.free 2
 simp only[af,am,ak,ay,aE,aB]at c0 c1 c2 r0 r1 r2;go_wp2;refine av (jF rfl _ rfl (((HR4.o.put 0 (.int .i64 kn)).put 1 (.int .i64 fn)).put 2 (.int .i64 rn))) rfl ?_;refine⟨?_,((HB4.o.setCell (ac _) _).setCell (ac _) _).setCell (ac _) _⟩;rw[HX.o];simp[Cx]
 try omega
end
end Go.Proofs.YtbdgkkmbnahgiaaGreatDoor
