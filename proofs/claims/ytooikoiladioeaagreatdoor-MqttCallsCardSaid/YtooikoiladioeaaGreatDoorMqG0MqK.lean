/- Parts: MqK, PkS. -/
import Derived.Test.YtooikoiladioeaaGreatDoorMqG0MqC
import Derived.OwnWalk
set_option maxRecDepth 10000
set_option maxHeartbeats 8000000
namespace Go.Proofs.YtooikoiladioeaaGreatDoor
open Go.RowKit Go.Proofs.Tryz
section
attribute [local go_sem ↓] bD bF bH bI bu
attribute [local go_sem] bc aD bh bg bK bJ bd aY be aO ax cI dC dB dt dj di dA dr dp dn bW co bO bZ bX cz cy cw cu ct cC YB bS bP bR
attribute [local go_sem ↓] xS
attribute [local go_sem] um
def Vs(r:List Pk×Nat×Int)(w:World)(e:Ending)(w':World):Prop:=∃A n c L,e= .returned (.tuple #[.slice A n c,.int .i64 (r.2.1:Nat),.int .i64 r.2.2])/\RdK w' A n L/\L.map Prod.fst=r.1/\Below w.heap.size w w'/\n<=c/\n<=10000000000
theorem UE{w0 w:World}{A:Option Addr}{n c a:Nat}{x:Int}{L:List (Pk×Hs)}{r:List Pk×Nat×Int}(hI:RowI w0 w A n c L)(hB:Below w0.heap.size w0 w)(hr:(L.map Prod.fst,a,x)=r)(hn:n<=10000000000):Vs r w0 (.returned (.tuple #[.slice A n c,.int .i64 a,.int .i64 x])) w:=by
 subst hr;exact⟨A,n,c,L,rfl,hI.read,rfl,hB,hI.row.cap,hn⟩
theorem Vy(v:Int)(s:ByteArray)(w:World)(hs:s.size<=10000000000):Calls prog 13 #[.int .i64 v,.string s] w (Vs (UX v s) w):=by
 have y:=aa hs;obtain⟨k,l⟩:∃R,UX v s=R:=⟨_,rfl⟩;rw[l];have O:Hid (Ux v s (s.size+1) 0 []=k):=aa l;have ad:=aa (RowI.start w w);have af:=aa (fun(a:Nat) W=>wS v (s.extract a s.size) W (by rw[aj];have:=y.o;omega));clear hs l;go_enter func13,ntmps13;go_wp2
 go_loopw [4,5] (fun lv U wr=>∃(A:Option Addr) (n c:Nat) (L:List (Pk×Hs)) (a f:Nat),lv= .slice A n c/\U= .int .i64 a/\RowI w wr A n c L/\Below w.heap.size w wr/\n<=a/\a<=s.size/\s.size<a+f/\Ux v s f a (L.map Prod.fst)=k) (fun _ U _=>s.size+1- (intOf U).toNat)
 case atStart=>exact⟨none,0,0,[],0,s.size+1,rfl,rfl,ad.o,aq _ _,ac _,ag _,by omega,O.o⟩
 case round=>
  obtain⟨A,n,c,L,a,f,rfl,rfl,hI,hB,h1,h2,d,hF⟩:=hrel;obtain⟨f,rfl⟩:∃f',f=f'+1:=⟨f- 1,by omega⟩;rw[UD]at hF;have I0:=aa hI;have V:=aa hB;have F:=aa h1;have t:=aa h2;have ab:=aa d;have p:=aa hF
  clear hI hB h1 h2 d hF;have h:=af.o a wr;have j:=aa (Ch (v:=v) (s:=s.extract a s.size));rw[aj]at j;obtain⟨⟨P,q,E⟩,hR⟩:∃R,mqR v (s.extract a s.size)=R:=⟨_,rfl⟩;rw[hR]at p j h;dsimp only at p j;have b1:(0:Int)<=(a:Int):=by omega
  have b2:(a:Int)<=(s.size:Int):=by have:=t.o;omega
  have X:=aa h;clear hR h
  go_wp2_with fail
  refine X.o.mono ?_;rintro e w1 hO;obtain⟨b,rfl,M,m,K⟩:=hO;have I1:=aa (I0.o.below m);have N:=aa (Yf V.o m);have S:=aa M;have Y:=aa K;have S1:=aa m.size
  clear M m K X;dsimp only at S Y⊢;have G:=aa (I1.o.below ((aq _ _).alloc (ac _) (.cells (pkC P b) PkT)));have r:=aa (N.o.alloc N.o.size (.cells (pkC P b) PkT));have P2:=aa (S.o.next ((aq _ _).alloc (ac _) (.cells (pkC P b) PkT)))
  by_cases d:E=3
  ·have Q:Hid ((L.map Prod.fst,a,0)=k):=aa (by rw[<-p.o,if_pos d]);have i:Hid (n<=10000000000):=aa (by have:=F.o;have:=t.o;have:=y.o;omega);subst d;go_wp2;go_ret3;exact UE G.o r.o Q.o i.o
  by_cases I:E=0
  rotate_left
  ·have Q:Hid ((L.map Prod.fst,a,E)=k):=aa (by rw[<-p.o,ae d,if_pos I]);have i:Hid (n<=10000000000):=aa (by have:=F.o;have:=t.o;have:=y.o;omega);have e3:(E==3)=false:=ar.2 d;have e0:(E !=0)=true:=aA.2 I;clear d I;go_wp2;go_ret3;exact UE G.o r.o Q.o i.o
  subst I;have Z:Hid (Ux v s f (a+q) ((L++[(P,b)]).map Prod.fst)=k):=aa (by
   have:=p.o;rw[ae d,ae (by decide)]at this;rw[Ii];exact this)
  obtain⟨q1,q2⟩:=j.o rfl;have u:Hid (2<=q/\a+q<=s.size):=aa (by have:=t.o;omega);have H:=aa (G.o.below ((aq _ _).alloc (ac _) (.cells (pkC P b) PkT)));have D:=aa (r.o.alloc r.o.size (.cells (pkC P b) PkT));have P3:=aa (P2.o.next ((aq _ _).alloc (ac _) (.cells (pkC P b) PkT)));have R3:=aa (Fs (w1.alloc (.cells (pkC P b) PkT)) P b (g:=w1.heap.size+1) (by simp));have z:wrap64 ((a:Int)+(q:Int))=((a+q:Nat):Int):=by have:=y.o;have:=u.o;unfold wrap64;omega
  have i:Hid (n+1<=100000000000):=aa (by have:=F.o;have:=t.o;have:=y.o;omega);clear d p j q1 q2 I1 G N r S P2
  go_upto_region 7 with (at_builtin;refine oE rfl (.tmp 28) (.tmp 30) rfl (w0:=w) (A:=A) (n:=n) (c:=c) (L:=L) rfl H.o.row D.o.size _ [(P,b)] 1 1 _ rfl rfl (by decide) R3.o i.o ?_;intro g c' w3 C B J ax)
  have I4:=aa (H.o.more C B J (fun x T=>by rw[gA.1 T];exact P3.o) (fun x T g o e=>by rw[gA.1 T];exact Y.o.apart (I0.o.row.block e).2));have B4:=aa (kz D.o B D.o.size (fun g hg=>(H.o.row.own hg).1));clear C B J ax H D P3 R3;go_wp2
  go_roundw
  case rel=>exact⟨some ⟨g,0,none⟩,n+1,c',L++[(P,b)],a+q,f,rfl,by rw[z],I4.o,B4.o,by have:=F.o;have:=u.o;omega,u.o.2,by have:=ab.o;have:=u.o;omega,Z.o⟩
  case measure=>
   rw[z];simp only[intOf,dN];have:=u.o;omega
end
section
attribute [local go_sem ↓] bD bF bH bI bu
attribute [local go_sem] bc aD bh bg bK bJ bd aY be aO ax cI dC dB dt dj di dA dr dp dn bW co bO bZ bX cz cy cw cu ct cC YB bS bP bR
theorem uh(A A':Option Addr)(n m c c':Nat)(L M:List (Pk×Hs))(w:World)(hl:RdK w A n L)(hm:RdK w A' m M)(ol:∀x∈L,gz x.1)(om:∀x∈M,gz x.1)(hn:n<=4611686018427387904)(hn':m<=4611686018427387904):
  Calls prog 16 #[.slice A n c,.slice A' m c'] w fun e w'=>e= .returned (.bool (decide (L.map Prod.fst=M.map Prod.fst)))/\Below w.heap.size w w':=by
 have E:=aa hl.len;have F:=aa hm.len
 by_cases b:n=m
 ·subst b;have Z:=aa hl;have HM:=aa hm;have OL:=aa ol;have OM:=aa om
  clear hl hm ol om;go_enter func16,ntmps16;go_wp2
  go_loopw [5] (fun i wr=>∃k:Nat,k<=n/\i= .int .i64 k/\(∀j,j<k->(L.map Prod.fst)[j]? =(M.map Prod.fst)[j]?)/\Below w.heap.size w wr) (fun i _=>n- (intOf i).toNat)
  case atStart=>exact⟨0,by omega,rfl,fun j s=>by omega,aq _ _⟩
  case round=>
   obtain⟨k,hk,rfl,g,o⟩:=hrel;have G:=aa g;have a:=aa o
   clear g o
   by_cases v:k<n
   ·obtain⟨bA,oA,p,h,rfl,y,Q,X,U⟩:=(Z.o.below a.o).at v;obtain⟨bB,oB,q,O,rfl,z,R,Y,V⟩:=(HM.o.below a.o).at v;have LP:Hid (gz p):=aa (OL.o (p,h) (iL y));have LQ:Hid (gz q):=aa (OM.o (q,O) (iL z));have J:Hid ((L.map Prod.fst)[k]? =some p):=aa (by rw[List.getElem?_map,y];rfl);have u:Hid ((M.map Prod.fst)[k]? =some q):=aa (by rw[List.getElem?_map,z];rfl);clear y z Q R;have b1:(0:Int)<=(k:Int):=by omega
    have b2:(k:Int)<(n:Int):=by omega
    have D:=jw (W:=wr) (fun x T=>ws p q h O x (U.next T) (V.next T) LP.o LQ.o);have g1:=fun d r=>X _ (below_regrown wr d r);have g2:=fun d r=>Y _ (below_regrown wr d r);have t:=aa (fun d r=>a.o.trans ((below_regrown wr d r).mono a.o.size));have f:=aa (show decide (p=q)=true↔p=q from cH);clear U V X Y;obtain⟨B,P⟩:∃B,decide (p=q)=B:=⟨_,rfl⟩;rw[P]at D f;clear P
    go_wp2_with fail
    refine wp_region_quiet_below (by as_aux_lemma=>kernel_rfl) (by as_aux_lemma=>kernel_rfl) ?_
    repeat (go_big_quiet_step (first| with_reducible exact D _ _))
    refine kE ?_;intro _ S;obtain⟨⟨N,osq⟩,C⟩:=S;subst C;have K:=aa (t.o N osq);clear D g1 g2 t;generalize Sort.grow (redrawn _ N) osq=wq at*;cases B
    ·have I:Hid (p≠q):=aa (fun e=>by have:=f.o.2 e;cases this);go_wp2;go_ret;refine⟨?_,K.o⟩;have:L.map Prod.fst≠M.map Prod.fst:=by
      intro e;have:=J.o.symm.trans ((congrArg (fun l:List Pk=>l[k]?) e).trans u.o);exact I.o (by simpa using this)
     simp[this]
    ·have H:Hid (p=q):=aa (f.o.1 rfl);go_wp2
     go_roundw
     case rel=>
      refine⟨k+1,by omega,by go_num,fun j s=>?_,K.o⟩;rcases dx.1 s with h| rfl
      ·exact G.o j h
      ·rw[J.o,u.o,H.o]
     case measure=>simp[intOf];omega
   ·go_wp2;go_ret;refine⟨?_,a.o⟩;have:L.map Prod.fst=M.map Prod.fst:=by
     apply dM;intro j
     by_cases s:j<k
     ·exact G.o j s
     ·rw[aG (by rw[eD];have:=E.o;omega),aG (by rw[eD];have:=F.o;omega)]
    simp[this]
 ·have h1:((n:Int) != (m:Int))=true:=by simpa using (by omega:¬(n:Int)=(m:Int))
  have HN:=aa b;clear b hl hm ol om;go_enter func16,ntmps16;go_wp2;go_ret;refine⟨?_,aq _ _⟩;have:L.map Prod.fst≠M.map Prod.fst:=by
   intro e;have:=congrArg List.length e;rw[eD,eD]at this;exact HN.o (by rw[<-E.o,<-F.o];exact this)
  simp[this]
end
end Go.Proofs.YtooikoiladioeaaGreatDoor
