/- Parts: RfM, MRfC, RhA. -/
import Derived.Test.YtafoknnjekegkaaGreatDoorLqG0MRfB
import Derived.Test.YtafoknnjekegkaaGreatDoorLqG0HdC
set_option maxRecDepth 10000
set_option maxHeartbeats 8000000
namespace Go.Proofs.YtafoknnjekegkaaGreatDoor
open Go.RowKit Go.Proofs.Tryz
theorem JE(A A':Option Addr)(n m c c':Nat)(l l':List Pr)(w:abP)(e1:l.length=n)(e2:l'.length=m)(hl:Rd w w.heap.size 4 A n (prs l))(hm:Rd w w.heap.size 4 A' m (prs l'))(hn:n<=4611686018427387904)(hn':m<=4611686018427387904):
  abR 256 #[.slice A n c,.slice A' m c'] w (.bool (decide (l=l'))):=by
 have G:=uc;by_cases g:n=m
 ·subst g;have d:=aa e1;have f:=aa e2;clear e1 e2
  have B:=aa hl;have C:=aa hm;clear hl hm
  go_enter func256,ntmps256;go_wp2
  go_loopw [5] (λi wr=>∃k:Nat,k<=n/\i= .int .i64 k/\(∀j,j<k->l[j]? =l'[j]?)/\abQ w wr) (λi _=>n- (intOf i).toNat)
  case atStart=>exact⟨0,by omega,rfl,λj t=>by omega,aq _ _⟩
  case round=>
   obtain⟨k,T,rfl,o,a⟩:=hrel;have x:=aa o;clear o
   by_cases b:k<n
   ·obtain⟨I,U,rfl,S,J,K,L,M⟩:=(show Rd w w.heap.size 4 A l.length (prs l) by rw[d.o];exact B.o).below a |>.atP (show k<l.length by rw[d.o];exact b);obtain⟨E,H,rfl,F,N,O,P,Q⟩:=(show Rd w w.heap.size 4 A' l'.length (prs l') by rw[f.o];exact C.o).below a |>.atP (show k<l'.length by rw[f.o];exact b);have y:Hid (l[k]? =some (l[k]'(by rw[d.o];exact b))):=aa (List.getElem?_eq_getElem _);have u:Hid (l'[k]? =some (l'[k]'(by rw[f.o];exact b))):=aa (List.getElem?_eq_getElem _);generalize l[k]'(by rw[d.o];exact b)=p at*;generalize l'[k]'(by rw[f.o];exact b)=q at*;have b1:(0:Int)<=(k:Int):=by omega
    have b2:(k:Int)<(n:Int):=by omega
    have v:=λW=>Cb p q W;by_cases s:p=q
    ·subst s;have r:decide (p=p)=true:=by simp
     rw[r]at v;clear r;go_wp2;go_quiet (fail);go_wp2;go_roundw
     case rel=>
      refine⟨k+1,by omega,by go_num,λj t=>?_,aV a _⟩;rcases dx.1 t with h| rfl
      ·exact x.o j h
      ·rw[y.o,u.o]
     case measure=>simp[intOf];omega
    ·have r:decide (p=q)=false:=ah s;rw[r]at v;have z:=aa s;clear s r
     go_wp2;go_quiet (fail);go_wp2;go_ret;refine⟨?_,aV a _⟩;have:l≠l':=by
      rintro rfl;have:=y.o.symm.trans u.o;exact z.o (by simpa using this)
     simp[this]
   ·go_wp2;go_ret;refine⟨?_,a⟩;have:l=l':=by
     apply dM;intro j;by_cases t:j<k
     ·exact x.o j t
     ·rw[aG (by have:=d.o;omega),aG (by have:=f.o;omega)]
    simp[this]
 ·have R:((n:Int) != (m:Int))=true:=by simpa using (by omega:¬(n:Int)=(m:Int))
  have D:=aa g;have d:=aa e1;have f:=aa e2;clear g e1 e2 hl hm
  go_enter func256,ntmps256;go_wp2;go_ret;refine⟨?_,aq _ _⟩;have:l≠l':=by
   rintro rfl;exact D.o (d.o.symm.trans f.o)
  simp[this]
theorem LM(A A':Option Addr)(n m c c':Nat)(l l':List Int)(w:abP)(hl:Rd w w.heap.size 1 A n (iv l))(hm:Rd w w.heap.size 1 A' m (iv l'))(hn:n<=9223372036854775807)(hn':m<=9223372036854775807):
  abR 257 #[.slice A n c,.slice A' m c'] w (.bool (decide (l=l'))):=by
 have v:l.length=n:=by have:=hl.len;simp[iv]at this;omega
 have x:l'.length=m:=by have:=hm.len;simp[iv]at this;omega
 have r:=aa v;have s:=aa x;clear v x
 by_cases b:n=m
 ·subst b;go_enter func257,ntmps257;go_wp2
  go_loopw [5] (λi wr=>∃k:Nat,k<=n/\i= .int .i64 k/\(∀j,j<k->l[j]? =l'[j]?)/\abQ w wr) (λi _=>n- (intOf i).toNat)
  case atStart=>exact⟨0,by omega,rfl,λj g=>by omega,aq _ _⟩
  case round=>
   obtain⟨k,M,rfl,d,a⟩:=hrel;have t:=aa d;clear d
   by_cases p:k<n
   ·obtain⟨J,N,z,rfl,K,y,L⟩:=(hl.below a).atI p;obtain⟨F,I,B,rfl,G,q,H⟩:=(hm.below a).atI p;have u:=aa y;have o:=aa q;clear y q hl hm
    have b1:(0:Int)<=(k:Int):=by omega
    have b2:(k:Int)<(n:Int):=by omega
    by_cases f:z=B
    ·subst f;go_wp2;go_quiet (fail);go_wp2;go_roundw
     case rel=>
      refine⟨k+1,by omega,by go_num,λj g=>?_,aV a _⟩;rcases dx.1 g with h| rfl
      ·exact t.o j h
      ·rw[u.o,o.o]
     case measure=>simp[intOf];omega
    ·have E:(z !=B)=true:=by simpa using f
     have C:=aa f;clear f
     go_wp2;go_quiet (fail);go_wp2;go_ret;refine⟨?_,aV a _⟩;have:l≠l':=by
      rintro rfl;have:=u.o.symm.trans o.o;exact C.o (by simpa using this)
     simp[this]
   ·go_wp2;go_ret;refine⟨?_,a⟩;have:l=l':=by
     apply dM;intro j;by_cases g:j<k
     ·exact t.o j g
     ·rw[aG (by have:=r.o;omega),aG (by have:=s.o;omega)]
    simp[this]
 ·have E:((n:Int) != (m:Int))=true:=by simpa using (by omega:¬(n:Int)=(m:Int))
  have D:=aa b;clear b
  go_enter func257,ntmps257;go_wp2;go_ret;refine⟨?_,aq _ _⟩;have:l≠l':=by
   rintro rfl;exact D.o (r.o.symm.trans s.o)
  simp[this]
theorem JY(A A':Option Addr)(n m c c':Nat)(l l':List Fi)(w:abP)(e1:l.length=n)(e2:l'.length=m)(hl:Rd w w.heap.size 5 A n (fis l))(hm:Rd w w.heap.size 5 A' m (fis l'))(hn:n<=4611686018427387904)(hn':m<=4611686018427387904):
  abR 258 #[.slice A n c,.slice A' m c'] w (.bool (decide (l=l'))):=by
 have G:=kP;by_cases g:n=m
 ·subst g;have d:=aa e1;have f:=aa e2;clear e1 e2
  have B:=aa hl;have C:=aa hm;clear hl hm
  go_enter func258,ntmps258;go_wp2
  go_loopw [5] (λi wr=>∃k:Nat,k<=n/\i= .int .i64 k/\(∀j,j<k->l[j]? =l'[j]?)/\abQ w wr) (λi _=>n- (intOf i).toNat)
  case atStart=>exact⟨0,by omega,rfl,λj t=>by omega,aq _ _⟩
  case round=>
   obtain⟨k,V,rfl,o,a⟩:=hrel;have x:=aa o;clear o
   by_cases b:k<n
   ·obtain⟨I,X,rfl,U,J,K,L,M,N⟩:=(show Rd w w.heap.size 5 A l.length (fis l) by rw[d.o];exact B.o).below a |>.atF (show k<l.length by rw[d.o];exact b);obtain⟨E,H,rfl,F,O,P,Q,R,S⟩:=(show Rd w w.heap.size 5 A' l'.length (fis l') by rw[f.o];exact C.o).below a |>.atF (show k<l'.length by rw[f.o];exact b);have y:Hid (l[k]? =some (l[k]'(by rw[d.o];exact b))):=aa (List.getElem?_eq_getElem _);have u:Hid (l'[k]? =some (l'[k]'(by rw[f.o];exact b))):=aa (List.getElem?_eq_getElem _);generalize l[k]'(by rw[d.o];exact b)=p at*;generalize l'[k]'(by rw[f.o];exact b)=q at*;have b1:(0:Int)<=(k:Int):=by omega
    have b2:(k:Int)<(n:Int):=by omega
    have v:=λW=>wQ p q W;by_cases s:p=q
    ·subst s;have r:decide (p=p)=true:=by simp
     rw[r]at v;clear r;go_wp2;go_quiet (fail);go_wp2;go_roundw
     case rel=>
      refine⟨k+1,by omega,by go_num,λj t=>?_,aV a _⟩;rcases dx.1 t with h| rfl
      ·exact x.o j h
      ·rw[y.o,u.o]
     case measure=>simp[intOf];omega
    ·have r:decide (p=q)=false:=ah s;rw[r]at v;have z:=aa s;clear s r
     go_wp2;go_quiet (fail);go_wp2;go_ret;refine⟨?_,aV a _⟩;have:l≠l':=by
      rintro rfl;have:=y.o.symm.trans u.o;exact z.o (by simpa using this)
     simp[this]
   ·go_wp2;go_ret;refine⟨?_,a⟩;have:l=l':=by
     apply dM;intro j;by_cases t:j<k
     ·exact x.o j t
     ·rw[aG (by have:=d.o;omega),aG (by have:=f.o;omega)]
    simp[this]
 ·have T:((n:Int) != (m:Int))=true:=by simpa using (by omega:¬(n:Int)=(m:Int))
  have D:=aa g;have d:=aa e1;have f:=aa e2;clear g e1 e2 hl hm
  go_enter func258,ntmps258;go_wp2;go_ret;refine⟨?_,aq _ _⟩;have:l≠l':=by
   rintro rfl;exact D.o (d.o.symm.trans f.o)
  simp[this]
theorem JO(v k:Int)(w:abP):abT 74 #[.int .i64 v,.int .i64 k] w (.bool (dS v k)):=by
 have f:Hid (dS v k=decide (1<=k/\(k<=14\/(k=15/\v=5)))):=aa rfl;by_cases d:1<=k;rotate_left
 ·have b:Hid (dS v k=false):=aa (by rw[f.o];exact ah (by omega));have h:decide ((1:Int)<=k)=false:=ah d;clear d;go_enter func74,ntmps74;go_wp2;go_ret;exact⟨by rw[b.o];rfl,rfl⟩
 have h:decide ((1:Int)<=k)=true:=au d;by_cases a:k<15
 ·have b:Hid (dS v k=true):=aa (by rw[f.o];exact au (by omega));have i:decide (k<(15:Int))=true:=au a;clear d a;go_enter func74,ntmps74;go_wp2;go_ret;exact⟨by rw[b.o];rfl,rfl⟩
 have i:decide (k<(15:Int))=false:=ah a;by_cases c:k=15;rotate_left
 ·have b:Hid (dS v k=false):=aa (by rw[f.o];exact ah (by omega));have j:(k==15)=false:=ar.2 c;clear d a c;go_enter func74,ntmps74;go_wp2;go_ret;exact⟨by rw[b.o];rfl,rfl⟩
 have j:(k==15)=true:=aK.2 c;by_cases g:v=5
 ·have b:Hid (dS v k=true):=aa (by rw[f.o];exact au (by omega));have l:(v==5)=true:=aK.2 g;clear d a c g;go_enter func74,ntmps74;go_wp2;go_ret;exact⟨by rw[b.o];rfl,rfl⟩
 ·have b:Hid (dS v k=false):=aa (by rw[f.o];exact ah (by omega));have l:(v==5)=false:=ar.2 g;clear d a c g;go_enter func74,ntmps74;go_wp2;go_ret;exact⟨by rw[b.o];rfl,rfl⟩
theorem KG(f:Int)(w:abP):abT 75 #[.int .i64 3,.int .i64 f] w (.bool (gd f)):=by
 by_cases c:0<=f;rotate_left
 ·have b:Hid (gd f=false):=aa (by unfold gd;exact ah (by omega));have g:decide ((0:Int)<=f)=false:=ah c;clear c;go_enter func75,ntmps75;go_wp2;go_ret;exact⟨by rw[b.o];rfl,rfl⟩
 by_cases a:f<=15;rotate_left
 ·have b:Hid (gd f=false):=aa (by unfold gd;exact ah (by omega));have h:decide (f<=(15:Int))=false:=ah a;clear a;go_enter func75,ntmps75;go_wp2;go_ret;exact⟨by rw[b.o];rfl,rfl⟩
 have d:f=0\/f=1\/f=2\/f=3\/f=4\/f=5\/f=6\/f=7\/f=8\/f=9\/f=10\/f=11\/f=12\/f=13\/f=14\/f=15:=by omega
 clear c a;obtain rfl| rfl| rfl| rfl| rfl| rfl| rfl| rfl| rfl| rfl| rfl| rfl| rfl| rfl| rfl| rfl:=d
 all_goals
  go_enter func75,ntmps75;go_wp2;go_ret;exact⟨by rfl,rfl⟩
theorem Se(v f:Int)(w:abP):abR 47 #[.int .i64 v,.agg #[.int .i64 3,.int .i64 f,.int .i64 0]] w (.int .i64 (eJ v f)):=by
 have j:Hid (eJ v f=if YG v=false then 2 else if gd f=false then 7 else 0):=aa rfl;have i:=aa ((aq w.heap.size w).alloc (ac _) (.cells #[.int .i64 3,.int .i64 f,.int .i64 0] 61));cases b:YG v
 ·have c:Hid (eJ v f=2):=aa (by rw[j.o,if_pos b]);have g:=aa b;clear b
  go_enter func47,ntmps47;go_wp2_with fail;refine(pS v _).mono ?_;rintro e h ⟨rfl,rfl⟩;rw[g.o];go_wp2;go_ret;exact⟨by rw[c.o];rfl,i.o⟩
 have g:=aa b;have l:Hid (dS v 3=true):=aa (by unfold dS;exact au (by omega));have d:Hid (eJ v f=if gd f=false then 7 else 0):=aa (by rw[j.o,Fl (λx=>by rw[b]at x;cases x)]);clear b;cases a:gd f
 focus
  have c:Hid (eJ v f=7):=aa (by rw[d.o,if_pos a]);have k:=aa a;clear a
  go_enter func47,ntmps47
 rotate_left
 focus
  have c:Hid (eJ v f=0):=aa (by rw[d.o,Fl (λx=>by rw[a]at x;cases x)]);have k:=aa a;clear a
  go_enter func47,ntmps47
 rotate_left
 all_goals
  go_wp2_with fail;refine(pS v _).mono ?_;rintro e h ⟨rfl,rfl⟩;rw[g.o];go_wp2_with fail;refine(JO v 3 _).mono ?_;rintro e h ⟨rfl,rfl⟩;rw[l.o];go_wp2_with fail;refine(KG f _).mono ?_;rintro e h ⟨rfl,rfl⟩;rw[k.o];go_wp2;go_ret;exact⟨by rw[c.o];rfl,i.o⟩
def Hq(v kind:Int)(l:List Pr):abO:=if v=4 then⟨#[]⟩else⟨(aM kind l).1.toArray⟩
theorem G5(v kind:Int)(l:List Pr)(n:Nat)(hn:l.length=n)(hg:∀p∈l,qc p)(A:Option Addr)(c:Nat)(w:abP)(h:Rd w w.heap.size 4 A n (prs l))(hl:n<=4611686018427387904)(hc:n<=c):
  abR 200 #[.int .i64 v,.int .i64 kind,.slice A n c] w (.string (Hq v kind l)):=by
 have H:=aa h;clear h
 by_cases a:v=4
 ·have b:Hid (Hq v kind l=⟨#[]⟩):=aa (if_pos a);have j:(v==4)=true:=aK.2 a;clear a;go_enter func200,ntmps200;go_wp2;go_ret;exact⟨by rw[b.o];rfl,aq _ _⟩
 ·have b:Hid (Hq v kind l=⟨(aM kind l).1.toArray⟩):=aa (Fl a);have j:(v==4)=false:=ar.2 a;have i:=aa hn;have g:=aa hg
  clear a hn hg;go_enter func200,ntmps200;go_wp2_with fail;refine Yg (KI kind l n i.o g.o A c _ H.o hl hc) λk d=>?_;have f:=aa d;clear d
  go_wp2;go_ret;exact⟨by rw[b.o];rfl,f.o⟩
def GI(v kind:Int)(l:List Pr):Int:=if v=4 then(if 0<l.length then 2 else 0)else(aM kind l).2
theorem Gx(v kind:Int)(l:List Pr)(n:Nat)(hn:l.length=n)(hg:∀p∈l,qc p)(A:Option Addr)(c:Nat)(w:abP)(h:Rd w w.heap.size 4 A n (prs l))(hl:n<=4611686018427387904)(hc:n<=c):
  abR 187 #[.int .i64 v,.int .i64 kind,.slice A n c] w (.int .i64 (GI v kind l)):=by
 have H:=aa h;clear h
 have j:=aa hn;have i:=aa hg
 by_cases a:v=4
 ·have o:(v==4)=true:=aK.2 a;by_cases d:0<n
  ·have b:Hid (GI v kind l=2):=aa (by unfold GI;rw[if_pos a,if_pos (by omega)]);have k:decide ((0:Int)<(n:Int))=true:=au (by omega);have m:decide (0<n)=true:=au d;clear a d hn hg;go_enter func187,ntmps187;go_wp2;go_ret;exact⟨by rw[b.o];rfl,aq _ _⟩
  ·have b:Hid (GI v kind l=0):=aa (by unfold GI;rw[if_pos a,Fl (by omega)]);have k:decide ((0:Int)<(n:Int))=false:=ah (by omega);have m:decide (0<n)=false:=ah d;clear a d hn hg;go_enter func187,ntmps187;go_wp2;go_ret;exact⟨by rw[b.o];rfl,aq _ _⟩
 ·have b:Hid (GI v kind l=(aM kind l).2):=aa (Fl a);have o:(v==4)=false:=ar.2 a;clear a hn hg;go_enter func187,ntmps187;go_wp2_with fail;refine Yg (Hv kind l n j.o i.o A c _ H.o hl hc) λq f=>?_;have g:=aa f;clear f
  go_wp2;go_ret;exact⟨by rw[b.o];rfl,g.o⟩
def QK(v kind:Int)(t:abO)(a:Nat)(e:Int):List Pr×Nat×Int:=
 if v=4\/e≠0 then([],a,e)else((aZ kind (t.extract a t.size)).1,a+(aZ kind (t.extract a t.size)).2.1,(aZ kind (t.extract a t.size)).2.2)
def TA(g:Nat)(t:abO)(r:List Pr×Nat×Int)(w:abP)(e:Ending)(w':abP):Prop:=
 ∃A c,e= .returned (.slice A r.1.length c)/\r.1.length<=c/\Rd w' w'.heap.size 4 A r.1.length (prs r.1)/\IC w' g t r.2.1 r.2.2/\w.grownBy w' (some g)
theorem Io(t:abO)(a:Nat)(e:Int):∀(i:Nat) (n:Int),(Am t a e)[i]? ≠some (Value.int IntKind.u32 n):=Yo t a e
theorem QD(v kind:Int)(g a:Nat)(t:abO)(e:Int)(w:abP)(h:IC w g t a e)(ht:t.size<=140737488351232):
  Calls prog 114 #[.int .i64 v,.int .i64 kind,.pointer (some ⟨g,0,none⟩)] w (TA g t (QK v kind t a e) w):=by
 have H:=aa h;have J:=aa ht
 obtain⟨⟨u,x,y⟩,z,f1,B⟩:=h.cells;have r:=aa h.2.1;clear h;by_cases d:v=4
 ·have b:Hid (QK v kind t a e=([],a,e)):=aa (if_pos (.inl d));have L:(v==4)=true:=aK.2 d;clear d;go_enter func114,ntmps114;go_wp2;go_ret;exact⟨none,0,by rw[b.o];rfl,by rw[b.o];exact ac _,by rw[b.o];exact Rd.nil _ _ _ _,by rw[b.o];exact H.o,Yn _ _⟩
 have L:(v==4)=false:=ar.2 d;by_cases k:e=0;rotate_left
 ·have b:Hid (QK v kind t a e=([],a,e)):=aa (if_pos (.inr k));have N:(e !=0)=true:=aA.2 k;clear d k;go_enter func114,ntmps114;go_wp2;go_ret;exact⟨none,0,by rw[b.o];rfl,by rw[b.o];exact ac _,by rw[b.o];exact Rd.nil _ _ _ _,by rw[b.o];exact H.o,Yn _ _⟩
 subst k;have b:Hid (QK v kind t a 0=((aZ kind (t.extract a t.size)).1,a+(aZ kind (t.extract a t.size)).2.1,(aZ kind (t.extract a t.size)).2.2)):=aa (Fl (by simpa using d));have M:(t.extract a t.size).size=t.size- a:=by rw[aj];omega
 have K:Hid ((t.extract a t.size).size<=140737488351232):=aa (by omega);have i:Hid (a+(aZ kind (t.extract a t.size)).2.1<=t.size):=aa (by have:=Bt kind (t.extract a t.size);have:=r.o;omega);clear d M;go_enter func114,ntmps114;go_wp2_with fail;refine Yg (QZ g a t 0 _ H.o) λO f=>?_;have m:=aa f;have I:=aa (H.o.below f)
 clear f;go_wp2_with fail;refine(Sk kind _ _ K.o).mono ?_;rintro e F ⟨A,c,rfl,C,D,f⟩;have p:=aa C;have s:=aa D
 have o:=aa (Yf m.o f);have j:=aa (I.o.below f)
 clear C D f u x y z f1 B;generalize aZ kind (t.extract a t.size)=R at*;obtain⟨q,n,E⟩:=R;simp only at b p s i⊢;obtain⟨⟨u,x,y⟩,z,f1,B⟩:=j.o.cells;have P:IntKind.i64.wrap ((a:Int)+(n:Int))=(a:Int)+(n:Int):=by rw[aQ];have:=i.o;have:=J.o;omega
 have G:=aa (show IC ((F.setCell ⟨g,2,none⟩ (.int .i64 E)).setCell ⟨g,1,none⟩ (.int .i64 ((a:Int)+(n:Int)))) g t (a+n) E from⟨(j.o.1.upd 2 (.int .i64 E) (cs':=Am t a E) (by simp[Am])).upd 1 _ (by simp[Am]),i.o,j.o.2.2⟩);have l:=aa ((YR F g 2 (.int .i64 E)).trans (YR _ g 1 (.int .i64 ((a:Int)+(n:Int)))));go_wp2;go_ret;refine⟨A,c,by rw[b.o];rfl,by rw[b.o];exact p.o,?_,by rw[b.o];exact G.o,(Y7 o.o (some g)).trans l.o⟩;rw[b.o];exact(s.o.other j.o.1 (Io _ _ _) l.o (ac _)).wider l.o.size
section
theorem Im(W:abP)(t:TypeId)(a b:Array Value):Bk ((W.alloc (.cells a t)).alloc (.cells b t)).drew W.heap.size t a/\Bk ((W.alloc (.cells a t)).alloc (.cells b t)).drew (W.heap.size+1) t b/\abQ W ((W.alloc (.cells a t)).alloc (.cells b t)).drew:=by
 refine⟨((Bk.fresh W t a).alloc _).drewN 1,?_,aV (((aq _ _).alloc (ac _) _).alloc (by simp) _) 1⟩;have h:=(Bk.fresh (W.alloc (.cells a t)) t b).drewN 1;rw[Ze]at h;exact h
theorem Ha{w:abP}{g:Nat}{x:Wl}{h:Hd}(b:Bk w g WlT (wlC x h)):w.cell? ⟨g,0,none⟩=some (.string x.topic)/\w.cell? ⟨g,1,none⟩=some (.string x.payload)/\w.cell? ⟨g,2,none⟩=some (.int .i64 x.qos)/\w.cell? ⟨g,3,none⟩=some (.bool x.retain)/\w.cell? ⟨g,4,none⟩=some (.slice h.a x.props.length h.c):=
 ⟨b.cell 0,b.cell 1,b.cell 2,b.cell 3,b.cell 4⟩
theorem GP(p q:Pk)(h k:Hs)(w:abP)(ip:PkIn w w.heap.size p h)(iq:PkIn w w.heap.size q k)(lp:gz p)(lq:gz q):
  abR 190 #[pkV p h,pkV q k] w (.bool (decide (p=q))):=by
 have Z:=ic w (.cells (pkC p h) PkT) (.cells (pkC q k) PkT);have B1:Bk ((w.alloc (.cells (pkC p h) PkT)).alloc (.cells (pkC q k) PkT)) w.heap.size PkT (pkC p h):=(Bk.fresh w PkT (pkC p h)).alloc _;have B2:Bk ((w.alloc (.cells (pkC p h) PkT)).alloc (.cells (pkC q k) PkT)) (w.heap.size+1) PkT (pkC q k):=by
  simpa using Bk.fresh (w.alloc (.cells (pkC p h) PkT)) PkT (pkC q k)
 have l:=aa (And.intro ip (And.intro iq (And.intro lp lq)));have V:=aa Z;have H1:=aa B1;have H2:=aa B2
 have X:=aa (nQ p q);clear ip iq lp lq Z;have m:=λi=>B1.cell i;have n:=λi=>B2.cell i;clear B1 B2;go_enter func190,ntmps190;go_wp2_with fail;obtain⟨W,hW⟩:∃W,((w.alloc (.cells (pkC p h) PkT)).alloc (.cells (pkC q k) PkT))=W:=⟨_,rfl⟩;have Y:W.heap.size=w.heap.size+2:=by rw[<-hW];simp
 rw[hW]at m n V H1 H2⊢;have aQ:=aa Y;have l1:w.heap.size<W.heap.size:=by omega
 have l2:w.heap.size+1<W.heap.size:=by omega
 clear hW Y;go_cut [5,6] (λv5 v6 x=>∃g5 g6,v5= .pointer (some ⟨g5,0,none⟩)/\v6= .pointer (some ⟨g6,0,none⟩)/\Bk x g5 WlT (wlC p.will h.wp)/\Bk x g6 WlT (wlC q.will k.wp)/\abQ W x)
 case first=>
  have j1:=m 15;have j2:=m 16;have j3:=m 17;have j4:=m 18;have j5:=m 19
  have m1:=n 15;have m2:=n 16;have m3:=n 17;have m4:=n 18;have m5:=n 19
  rw[cz]at j1 m1;rw[cy]at j2 m2;rw[cw]at j3 m3;rw[cu]at j4 m4;rw[YL]at j5 m5;clear m n
  go_region_law (fail)
  all_goals
   go_wp2;go_meet
   case rel=>first| exact⟨_,_,rfl,rfl,(Im W _ _ _).1,(Im W _ _ _).2.1,(Im W _ _ _).2.2⟩ | exact⟨_,_,rfl,rfl,(Im W _ _ _).2.1,(Im W _ _ _).1,(Im W _ _ _).2.2⟩
 case rest=>
  obtain⟨g5,g6,rfl,rfl,b5,b6,A⟩:=hcut;have HX:=aa A;have P:=aa (H1.o.below A l1);have S:=aa (H2.o.below A l2)
  have o:=aa (Yf V.o A);clear m n A l1 l2;have m:=λi=>P.o.cell i;have n:=λi=>S.o.cell i;have C0:=aa (JE h.wp.a k.wp.a p.will.props.length q.will.props.length h.wp.c k.wp.c p.will.props q.will.props _ rfl rfl (l.o.1.next o.o).wp (l.o.2.1.next o.o).wp l.o.2.2.1.1 l.o.2.2.2.1);have F:=aa b5;have G:=aa b6
  clear b5 b6;by_cases d:p.will.topic=q.will.topic;rotate_left
  ·have u:Hid (decide (p=q)=false):=aa (ah (λx=>d (by rw[x])));have U:¬(p.will.topic.toList=q.will.topic.toList):=λx=>d ((toList_inj _ _).1 x);have x2:(p.will.topic.toList==q.will.topic.toList)=false:=ar.2 U;have x3:(p.will.topic.toList !=q.will.topic.toList)=true:=aA.2 U;obtain⟨H,I,J,K,L⟩:=Ha F.o;obtain⟨s,t,v,B,M⟩:=Ha G.o;clear d;go_wp2;go_ret;exact⟨by rw[u.o];rfl,o.o⟩
  by_cases b:p.will.payload=q.will.payload;rotate_left
  ·have u:Hid (decide (p=q)=false):=aa (ah (λx=>b (by rw[x])));have U:¬(p.will.payload.toList=q.will.payload.toList):=λx=>b ((toList_inj _ _).1 x);have x2:(p.will.payload.toList==q.will.payload.toList)=false:=ar.2 U;have x3:(p.will.payload.toList !=q.will.payload.toList)=true:=aA.2 U;obtain⟨H,I,J,K,L⟩:=Ha F.o;obtain⟨s,t,v,B,M⟩:=Ha G.o;rw[<-d]at s;clear b d;go_wp2;go_ret;exact⟨by rw[u.o];rfl,o.o⟩
  by_cases g:p.will.qos=q.will.qos;rotate_left
  ·have u:Hid (decide (p=q)=false):=aa (ah (λx=>g (by rw[x])));have x2:(p.will.qos==q.will.qos)=false:=ar.2 g;have x3:(p.will.qos !=q.will.qos)=true:=aA.2 g;obtain⟨H,I,J,K,L⟩:=Ha F.o;obtain⟨s,t,v,B,M⟩:=Ha G.o;rw[<-d]at s;rw[<-b]at t;clear g d b;go_wp2;go_ret;exact⟨by rw[u.o];rfl,o.o⟩
  by_cases f:p.will.retain=q.will.retain;rotate_left
  ·have u:Hid (decide (p=q)=false):=aa (ah (λx=>f (by rw[x])));have x2:(p.will.retain==q.will.retain)=false:=ar.2 f;have x3:(p.will.retain !=q.will.retain)=true:=aA.2 f;obtain⟨H,I,J,K,L⟩:=Ha F.o;obtain⟨s,t,v,B,M⟩:=Ha G.o;rw[<-d]at s;rw[<-b]at t;rw[<-g]at v;clear f d b g;go_wp2;go_ret;exact⟨by rw[u.o];rfl,o.o⟩
  by_cases j:p.will.props=q.will.props;rotate_left
  ·have u:Hid (decide (p=q)=false):=aa (ah (λx=>j (by rw[x])));have DP:=aa (ah j);obtain⟨H,I,J,K,L⟩:=Ha F.o;obtain⟨s,t,v,B,M⟩:=Ha G.o;rw[<-d]at s;rw[<-b]at t;rw[<-g]at v;rw[<-f]at B;clear j d b g f;go_wp2_with fail;refine C0.o.mono ?_;rintro e w3 ⟨rfl,C⟩;rw[DP.o];have r:=aa (Yf o.o C);clear C
   go_wp2;go_ret;exact⟨by rw[u.o];rfl,r.o⟩
  have DP:=aa (au j);have DW:Hid (p.will=q.will):=aa (nC _ _ |>.2 ⟨d,b,g,f,j⟩);obtain⟨H,I,J,K,L⟩:=Ha F.o;obtain⟨s,t,v,B,M⟩:=Ha G.o;rw[<-d]at s;rw[<-b]at t;rw[<-g]at v;rw[<-f]at B;clear j d b g f;go_wp2_with fail;refine C0.o.mono ?_;rintro e w3 ⟨rfl,C⟩;rw[DP.o];have r:=aa (Yf o.o C);have N:=aa (Yh P.o C);have Q:=aa (Yh S.o C)
  clear C m n H I J K L s t v B M;have m:=λi=>N.o.cell i;have n:=λi=>Q.o.cell i;go_wp2_with (first
   | (go_at_call 257;refine Yg (LM h.codes.a k.codes.a p.codes.length q.codes.length h.codes.c k.codes.c p.codes q.codes _ (l.o.1.next r.o).codes (l.o.2.1.next r.o).codes (aC l.o.2.2.1.2.1 (by decide)) (aC l.o.2.2.2.2.1 (by decide))) λw4 D=>?_;have y:=aa (Yf r.o D);have O:=aa (Yh N.o D);have R:=aa (Yh Q.o D);clear D m n;have m:=λi=>O.o.cell i;have n:=λi=>R.o.cell i)
   | (go_at_call 258;refine Yg (JY h.filters.a k.filters.a p.filters.length q.filters.length h.filters.c k.filters.c p.filters q.filters _ rfl rfl (l.o.1.next y.o).filters (l.o.2.1.next y.o).filters l.o.2.2.1.2.2.1 l.o.2.2.2.2.2.1) λw5 E=>?_;have z:=aa (Yf y.o E);have ap:=aa (Yh O.o E);have av:=aa (Yh R.o E);clear E m n;have m:=λi=>ap.o.cell i;have n:=λi=>av.o.cell i)
   | (go_at_call 256;refine Yg (JE h.props.a k.props.a p.props.length q.props.length h.props.c k.props.c p.props q.props _ rfl rfl (l.o.1.next z.o).props (l.o.2.1.next z.o).props l.o.2.2.1.2.2.2 l.o.2.2.2.2.2.2) λw6 ab=>?_;have aw:=aa (Yf z.o ab);clear ab))
  all_goals
   go_ret;refine⟨eT ?_,by first| exact aw.o| exact z.o| exact y.o| exact r.o⟩;have DW:=DW.o;have X:=X.o
   clear V r m n;by_cases T:p=q
   ·subst T
    simp_all
   ·rw[ah T]
    first| done| (rw[X]at T;clear X;simp_all[toList_inj])
theorem JX(k f:Int)(w:abP):abT 75 #[.int .i64 k,.int .i64 f] w (.bool (eu k f)):=by
 by_cases h:k=3
 ·subst h;rw[show eu 3 f=gd f from if_pos rfl];exact KG f w
 have j:(k==3)=false:=ar.2 h;have a:Hid (eu k f=decide (f=gg k)):=aa (Fl h);clear h;by_cases g:k=6\/k=8\/k=10
 ·have c:Hid (gg k=2):=aa (if_pos g);have d:Hid (eu k f=(f==2)):=aa (by rw[a.o,c.o];by_cases e:f=2<;>simp[e]);clear c a;obtain⟨b,i⟩:∃b,(f==2)=b:=⟨_,rfl⟩;rw[i]at d;rcases g with rfl| rfl| rfl
  all_goals
   clear j;go_enter func75,ntmps75;go_wp2;go_ret;exact⟨by rw[d.o];rfl,rfl⟩
 ·have c:Hid (gg k=0):=aa (Fl g);have d:Hid (eu k f=(f==0)):=aa (by rw[a.o,c.o];by_cases e:f=0<;>simp[e]);have m:(k==6)=false:=ar.2 (by omega);have n:(k==8)=false:=ar.2 (by omega);have l:(k==10)=false:=ar.2 (by omega);clear c a g;obtain⟨b,i⟩:∃b,(f==0)=b:=⟨_,rfl⟩;rw[i]at d;go_enter func75,ntmps75;go_wp2;go_ret;exact⟨by rw[d.o];rfl,rfl⟩
theorem Lr(v k f:Int)(n:Nat)(w:abP)(hn:n<=268435455):abR 47 #[.int .i64 v,Cx ⟨k,f,n⟩] w (.int .i64 (ff v k f)):=by
 have h:Hid (ff v k f=if YG v=false then 2 else if dS v k=false then 8 else if eu k f=false then 7 else 0):=aa rfl;have g:=aa ((aq w.heap.size w).alloc (ac _) (.cells #[.int .i64 k,.int .i64 f,.int .i64 n] 61));have j:=aa hn;clear hn;show Calls _ _ #[.int .i64 v,.agg #[.int .i64 k,.int .i64 f,.int .i64 n]] _ _;go_enter func47,ntmps47;go_wp2_with fail;refine(pS v _).mono ?_;rintro e i ⟨rfl,rfl⟩;cases a:YG v
 ·have b:Hid (ff v k f=2):=aa (by rw[h.o,if_pos a]);clear a;go_wp2;go_ret;exact⟨by rw[b.o];rfl,g.o⟩
 have c:Hid (ff v k f=if dS v k=false then 8 else if eu k f=false then 7 else 0):=aa (by rw[h.o,Fl (λx=>by rw[a]at x;cases x)]);clear a h;have o:(w.alloc (.cells #[.int .i64 k,.int .i64 f,.int .i64 n] 61)).cell? ⟨w.heap.size,0,none⟩=some (.int .i64 k):=(Bk.fresh w 61 _).cell 0;have p:(w.alloc (.cells #[.int .i64 k,.int .i64 f,.int .i64 n] 61)).cell? ⟨w.heap.size,1,none⟩=some (.int .i64 f):=(Bk.fresh w 61 _).cell 1;have q:(w.alloc (.cells #[.int .i64 k,.int .i64 f,.int .i64 n] 61)).cell? ⟨w.heap.size,2,none⟩=some (.int .i64 n):=(Bk.fresh w 61 _).cell 2;go_wp2_with fail;refine(JO v k _).mono ?_;rintro e i ⟨rfl,rfl⟩;cases a:dS v k
 ·have b:Hid (ff v k f=8):=aa (by rw[c.o,if_pos a]);clear a;go_wp2;go_ret;exact⟨by rw[b.o];rfl,g.o⟩
 have d:Hid (ff v k f=if eu k f=false then 7 else 0):=aa (by rw[c.o,Fl (λx=>by rw[a]at x;cases x)]);clear a c;go_wp2_with fail;refine(JX k f _).mono ?_;rintro e i ⟨rfl,rfl⟩;cases a:eu k f
 ·have b:Hid (ff v k f=7):=aa (by rw[d.o,if_pos a]);clear a;go_wp2;go_ret;exact⟨by rw[b.o];rfl,g.o⟩
 have b:Hid (ff v k f=0):=aa (by rw[d.o,Fl (λx=>by rw[a]at x;cases x)]);have l:decide ((n:Int)<0)=false:=ah (by omega);have m:decide ((268435455:Int)<(n:Int))=false:=ah (by have:=j.o;omega);clear a d;go_wp2;go_ret;exact⟨by rw[b.o];rfl,g.o⟩
theorem JW(v k f:Int)(n:Nat)(w:abP)(hn:n<=268435455):abR 55 #[.int .i64 v,Cx ⟨k,f,n⟩] w (.tuple #[.string ⟨(hdB v k f n).1.toArray⟩,.int .i64 (hdB v k f n).2]):=by
 have r:=aa ((aq w.heap.size w).alloc (ac _) (.cells #[.int .i64 k,.int .i64 f,.int .i64 n] 61));have s:=aa (Bk.fresh w 61 #[.int .i64 k,.int .i64 f,.int .i64 n]);have D:=aa hn;have i:=aa (λW=>Lr v k f n W hn);clear hn;show Calls _ _ #[.int .i64 v,.agg #[.int .i64 k,.int .i64 f,.int .i64 n]] _ _;simp only[Cx]at i;go_enter func55,ntmps55;go_wp2_with fail;refine Yg (i.o _) λJ c=>?_;have h:=aa (Yf r.o c);have d:=aa (Yh s.o c);clear c r s i;by_cases g:ff v k f=0;rotate_left
 ·have t:Hid (hdB v k f n=([],ff v k f)):=aa (Fl g);generalize ff v k f=x at*;have G:(x !=0)=true:=aA.2 g;clear g;go_wp2;go_ret2;exact⟨by rw[t.o];rfl,h.o⟩
 have t:Hid (hdB v k f n=(hdS k f n,0)):=aa (if_pos g);obtain⟨E,A,B⟩:=Zc.1 g;have H:=vk A;have I:=rm B;rw[g];clear g E A B;obtain⟨b,rfl⟩:∃b:Nat,k=b:=⟨k.toNat,by omega⟩;obtain⟨a,rfl⟩:∃a:Nat,f=a:=⟨f.toNat,by omega⟩;have l:=d.o.cell 0;have o:=d.o.cell 1;have z:=d.o.cell 2
 simp only[ay,aE,aB]at l o z;go_wp2_with fail;refine Yg (IB n _ D.o) λK c=>?_;have p:=aa (Yf h.o c);have q:=aa (Yh d.o c);clear c l o z;have l:=q.o.cell 0;have o:=q.o.cell 1
 simp only[ay,aE,aB]at l o;have j:Hid (∀W,abR 87 #[.int .u64 (16*(b:Int)+(a:Int)),.int .i64 1] W (.string ⟨(Yk (16*b+a) 1).toArray⟩)):=aa (λW=>by
  rw[show 16*(b:Int)+(a:Int)=((16*b+a:Nat):Int) by omega];exact GV (16*b+a) 1 W (by omega) (by decide) (by decide))
 have y:Hid (hdS (b:Int) (a:Int) n=Yk (16*b+a) 1++eP n):=aa (by
  unfold hdS;rw[show(16*(b:Int)+(a:Int)).toNat=16*b+a by omega])
 obtain⟨m,C⟩:∃m,16*b+a=m:=⟨_,rfl⟩;rw[C]at j y;clear C;go_wp2_with fail;refine Yg (j.o _) λL c=>?_;have u:=aa (Yf p.o c);have F:¬(9223372036854775807<(Yk m 1).length+(eP n).length):=by
  rw[fM];have:(eP n).length<=4:=mO 3 n;omega
 clear c l o j;go_wp2;go_ret2;exact⟨by rw[t.o,y.o];rfl,u.o⟩
theorem Q8(v:Int)(s:abO)(w:abP)(hs:s.size<=1000000000000):abR 31 #[.int .i64 v,.string s] w (.tuple #[Cx (hdR v s).1,.int .i64 ((hdR v s).2.1:Nat),.int .i64 (hdR v s).2.2]):=by
 have K:Hid (hdR v s=if YG v=false then(lC,0,2)
  else if s.size=0 then(lC,0,3)
  else if ff v (YW s/ 16:Nat) (YW s% 16:Nat)≠0 then(lC,0,ff v (YW s/ 16:Nat) (YW s% 16:Nat))
  else if(YT (ls (s.extract 1 s.size))).2.2≠0 then(lC,0,(YT (ls (s.extract 1 s.size))).2.2)
  else(⟨(YW s/ 16:Nat),(YW s% 16:Nat),(YT (ls (s.extract 1 s.size))).1⟩,(YT (ls (s.extract 1 s.size))).2.1+1,0)):=aa rfl
 have HS:=aa hs;have C:=aa ((aq w.heap.size w).alloc (ac _) (.cells #[.int .i64 0,.int .i64 0,.int .i64 0] 61));have L:=aa (Bk.fresh w 61 #[.int .i64 0,.int .i64 0,.int .i64 0]);clear hs;go_enter func31,ntmps31;go_wp2_with fail;refine(pS v _).mono ?_;rintro e w1 ⟨rfl,rfl⟩;cases A:YG v
 ·have i:Hid (hdR v s=(lC,0,2)):=aa (by rw[K.o,if_pos A]);clear A;go_wp2;refine abZ (jF rfl _ rfl L.o) rfl ?_;exact⟨by rw[i.o];rfl,C.o⟩
 by_cases y:s.size=0
 ·have i:Hid (hdR v s=(lC,0,3)):=aa (by rw[K.o,Fl (λx=>by rw[A]at x;cases x),if_pos y]);have O:=kR s;rw[au y]at O;clear A y;go_wp2;refine abZ (jF rfl _ rfl L.o) rfl ?_;exact⟨by rw[i.o];rfl,C.o⟩
 have P:0<s.size:=by omega
 obtain⟨b,l⟩:∃b,s[0]'P=b:=⟨_,rfl⟩;have T:Hid (YW s=b.toNat):=aa (by
  unfold YW;rw[List.headD_eq_head?_getD,List.head?_eq_getElem?,List.getElem?_eq_getElem (by rw[aN];omega),uY s 0 (by omega),l];rfl)
 have U:Hid (hdR v s=if ff v (YW s/ 16:Nat) (YW s% 16:Nat)≠0 then(lC,0,ff v (YW s/ 16:Nat) (YW s% 16:Nat))
  else if(YT (ls (s.extract 1 s.size))).2.2≠0 then(lC,0,(YT (ls (s.extract 1 s.size))).2.2)
  else(⟨(YW s/ 16:Nat),(YW s% 16:Nat),(YT (ls (s.extract 1 s.size))).1⟩,(YT (ls (s.extract 1 s.size))).2.1+1,0)):=aa (by rw[K.o,Fl (λx=>by rw[A]at x;cases x),Fl y])
 have aw:(0:Int)<(s.size:Int):=by omega
 have O:=kR s;rw[ah y]at O;have an:=b.toNat_lt;have ab:Hid (1<=s.size):=aa (by omega);clear A K y;go_wp2_with fail;go_region;have X:Hid (∃d c:Nat,b.toNat/ 16=d/\b.toNat% 16=c):=aa ⟨_,_,rfl,rfl⟩;obtain⟨d,c,Z,Y⟩:=X.o;rw[show((b.toNat:Int) / 16)=(d:Int) by omega,show((b.toNat:Int) % 16)=(c:Int) by omega];have q:Hid (hdR v s=if ff v d c≠0 then(lC,0,ff v d c)
  else if(YT (ls (s.extract 1 s.size))).2.2≠0 then(lC,0,(YT (ls (s.extract 1 s.size))).2.2)
  else(⟨d,c,(YT (ls (s.extract 1 s.size))).1⟩,(YT (ls (s.extract 1 s.size))).2.1+1,0)):=aa (by rw[U.o,T.o,Z,Y])
 obtain⟨I,j⟩:∃I,((w.alloc (.cells #[.int .i64 0,.int .i64 0,.int .i64 0] 61)).alloc (.cells #[.int .i64 d,.int .i64 c,.int .i64 0] 61)).drew=I:=⟨_,rfl⟩;have D:Hid (abQ w I):=aa (by rw[<-j];exact aV (C.o.alloc C.o.size _) 1);have H:Hid (Bk I w.heap.size 61 #[.int .i64 0,.int .i64 0,.int .i64 0]):=aa (by rw[<-j];exact(L.o.alloc _).drewN 1);have g:Hid (Bk I (w.heap.size+1) 61 #[.int .i64 d,.int .i64 c,.int .i64 0]):=aa (by
  rw[<-j];have:=(Bk.fresh (w.alloc (.cells #[.int .i64 0,.int .i64 0,.int .i64 0] 61)) 61 #[.int .i64 d,.int .i64 c,.int .i64 0]).drewN 1;rwa[show(w.alloc (.cells #[.int .i64 0,.int .i64 0,.int .i64 0] 61)).heap.size=w.heap.size+1 by simp]at this)
 rw[j];have F:=aa (λW=>Lr v d c 0 W (by omega));simp only[Cx]at F;clear X U T Z Y l an L C O j;have M:=g.o.cell 0;have N:=g.o.cell 1;have k:=g.o.cell 2
 simp only[ay,aE,aB]at M N k;go_wp2_with fail;refine Yg (F.o _) λw1 l=>?_;have E:=aa (Yf D.o l);have t:=aa (Yh g.o l);have a:=aa (Yh H.o l);clear l M N k F g D H;have m:=a.o.cell 0;have n:=a.o.cell 1;have o:=a.o.cell 2
 have Q:=a.o.free 0;have R:=a.o.free 1;have S:=a.o.free 2
 simp only[ay,aE,aB]at m n o;by_cases z:ff v d c=0;rotate_left
 focus
  have i:Hid (hdR v s=(lC,0,ff v d c)):=aa (by rw[q.o,if_pos z]);generalize ff v d c=x at*;have e0:(x !=0)=true:=aA.2 z;clear z q
 rotate_left;rw[z];have h:Hid (hdR v s=if(YT (ls (s.extract 1 s.size))).2.2≠0 then(lC,0,(YT (ls (s.extract 1 s.size))).2.2)
  else(⟨d,c,(YT (ls (s.extract 1 s.size))).1⟩,(YT (ls (s.extract 1 s.size))).2.1+1,0)):=aa (by rw[q.o,Fl (λx=>x z)])
 clear z q m n o Q R S;have v1:(0:Int)<=1:=by decide
 have v2:(1:Int)<=(s.size:Int):=by have:=ab.o;omega
 have V:=aa (λW=>QM (s.extract 1 s.size) W (by rw[aj];have:=HS.o;omega));have u:=aa (jH (ls (s.extract 1 s.size)));rw[aN,aj]at u;go_wp2_with fail;refine(V.o _).mono ?_;rintro e w2 ⟨rfl,rfl⟩;obtain⟨⟨B,ra,re⟩,hr⟩:∃r,YT (ls (s.extract 1 s.size))=r:=⟨_,rfl⟩;rw[hr]at h u⊢;dsimp only at u⊢;clear hr V;have m:=a.o.cell 0;have n:=a.o.cell 1;have o:=a.o.cell 2
 have Q:=a.o.free 0;have R:=a.o.free 1;have S:=a.o.free 2
 simp only[ay,aE,aB]at m n o;by_cases J:re=0;rotate_left
 focus
  have i:Hid (hdR v s=(lC,0,re)):=aa (by rw[h.o,if_pos J]);have e0:(re !=0)=true:=aA.2 J;clear h J
 rotate_left 2;have i:Hid (hdR v s=(⟨d,c,B⟩,ra+1,0)):=aa (by rw[h.o,Fl (λx=>x J)]);subst J;have ax:wrap64 (1+(ra:Int))=((ra+1:Nat):Int):=by have:=u.o;have:=HS.o;unfold wrap64;omega
 clear h m n o Q R S;have k:=t.o.cell 2;have f2:=t.o.free 2;simp only[ay,aE,aB]at k;go_upto_region 13 with fail
 have ag:=aa (E.o.setCell (p:=⟨w.heap.size+1,2,none⟩) (IT _) (.int .i64 B));have G:=aa (t.o.put 2 (.int .i64 B));have f:=aa (a.o.other (p:=⟨w.heap.size+1,2,none⟩) (by simp) (.int .i64 B));clear E t a k f2;generalize w1.setCell ⟨w.heap.size+1,2,none⟩ (.int .i64 B)=W9 at*;have M:=G.o.cell 0;have N:=G.o.cell 1;have k:=G.o.cell 2
 have m:=f.o.cell 0;have n:=f.o.cell 1;have o:=f.o.cell 2
 have Q:=f.o.free 0;have R:=f.o.free 1;have S:=f.o.free 2
 simp only[af,am,ak,ay,aE,aB]at M N k m n o;go_wp2;refine abZ (jF rfl _ rfl (((f.o.put 0 (.int .i64 d)).put 1 (.int .i64 c)).put 2 (.int .i64 B))) rfl ?_;refine⟨?_,((ag.o.setCell (ac _) _).setCell (ac _) _).setCell (ac _) _⟩;rw[i.o];simp[Cx]
 try omega
 all_goals
  go_wp2;refine abZ (jF rfl _ rfl (((a.o.put 0 (.int .i64 0)).put 1 (.int .i64 0)).put 2 (.int .i64 0))) rfl ?_;exact⟨by rw[i.o];rfl,((E.o.setCell (ac _) _).setCell (ac _) _).setCell (ac _) _⟩
end
