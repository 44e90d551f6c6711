/- Parts: MPrp, Row, Open. -/
import Derived.Test.YtafoknnjekegkaaGreatDoorLqG0MPro
import Derived.Laws.StructEq
import Derived.Test.YtafoknnjekegkaaGreatDoorRows
import Derived.ProofKit
import Derived.OpenShut
import Derived.Carry
import Derived.SizedLaws
import Derived.Deep.Slices
import Derived.Deep.Fields
import Derived.ChangeArms
import Derived.ChangeMaps5
set_option maxRecDepth 10000
set_option maxHeartbeats 8000000
namespace Go.Proofs.YtafoknnjekegkaaGreatDoor
open Go.RowKit Go.Proofs.Tryz
def cnt(k:Nat)(l:List Pr):Nat:=l.countP λp=>p.id.toNat==k
theorem lJ(k:Nat)(p:Pr)(l:List Pr):cnt k (p :: l)=cnt k l+if p.id.toNat=k then 1 else 0:=by
 simp[cnt,List.countP_cons]
theorem ME(k:Nat)(a b:List Pr):cnt k (a++b)=cnt k a+cnt k b:=by simp[cnt]
theorem EX{k:Nat}{l:List Pr}:0<cnt k l↔∃p∈l,p.id.toNat=k:=by
 simp[cnt,List.countP_pos_iff]
def ckL(kind:Int)(l:List Pr):Prop:=∀p∈l,de (cr p.id) kind p=0
def oK(kind:Int)(f:Nat->Nat)(l:List Pr):Prop:=∀p∈l,gS kind p.id.toNat=false->f p.id.toNat+cnt p.id.toNat l<=1
theorem kU(f:Nat->Nat)(kind:Int)(k:Nat):iC f kind k=true↔1<=f k/\gS kind k=false:=by
 unfold iC;simp;omega
theorem Zv(kind:Int)(f:Nat->Nat)(p:Pr)(l:List Pr)(h:¬(1<=f p.id.toNat/\gS kind p.id.toNat=false)):
  oK kind (upd f p.id.toNat (f p.id.toNat+1)) l↔oK kind f (p :: l):=by
 have e:∀j,upd f p.id.toNat (f p.id.toNat+1) j+cnt j l=f j+cnt j (p :: l):=by
  intro j;rw[lJ];unfold upd;by_cases i:j=p.id.toNat
  ·subst i;simp;omega
  ·rw[Fl i,Fl (λx=>i x.symm)];rfl
 unfold oK;simp only[e];constructor
 ·intro d q c a;rcases ie.1 c with rfl| c
  ·have m:f q.id.toNat=0:=by
    rcases dh (f q.id.toNat)with b| b
    ·exact b
    ·exact absurd ⟨b,a⟩ h
   rcases dh (cnt q.id.toNat l)with b| b
   ·rw[lJ];simp;omega
   ·obtain⟨x,k,g⟩:=EX.1 b;have:=d x k (by rw[g];exact a);rw[g]at this;exact this
  ·exact d q c a
 ·intro d q c a;exact d q (kV _ c) a
theorem qL(kind:Int):∀(l:List Pr) (f:Nat->Nat) (out:List UInt8),(eO kind l f out).2=0↔(ckL kind l/\oK kind f l/\jp (λk=>f k+cnt k l)=false)
 | [],f,out=>by
   simp only[eO,ckL,oK,cnt,List.countP_nil,jV];cases h:jp f<;>simp
 | p :: l,f,out=>by
   have e:(λj=>upd f p.id.toNat (f p.id.toNat+1) j+cnt j l)=λj=>f j+cnt j (p :: l):=by
    funext j;rw[lJ];unfold upd;by_cases m:j=p.id.toNat
    ·subst m;simp;omega
    ·rw[Fl m,Fl (λx=>m x.symm)];rfl
   rw[eO];by_cases c:de (cr p.id) kind p=0
   ·rw[Fl (by simpa using c)];by_cases b:iC f kind p.id.toNat=true
    ·rw[if_pos b];constructor
     ·intro h;exact absurd h (by decide)
     ·rintro ⟨_,h,_⟩;have a:=h p (by simp) ((kU _ _ _).1 b).2;have g:=((kU _ _ _).1 b).1;rw[lJ]at a;simp at a;omega
    ·rw[Fl b,qL kind l,e,Zv kind f p l (λh=>b ((kU _ _ _).2 h))];constructor
     ·rintro ⟨a,g,i⟩;refine⟨λq d=>?_,g,i⟩;rcases ie.1 d with rfl| d
      ·exact c
      ·exact a q d
     ·rintro ⟨a,g,i⟩;exact⟨λq d=>a q (kV _ d),g,i⟩
   ·rw[if_pos c];constructor
    ·intro h;exact absurd h c
    ·rintro ⟨h,_⟩;exact absurd (h p (by simp)) c
theorem mt(kind:Int):∀(l:List Pr) (f:Nat->Nat) (out:List UInt8),(eO kind l f out).2=0->eO kind l f out=(eP (out++l.flatMap jI).length++(out++l.flatMap jI),0)
 | [],f,out=>by
   rw[eO];cases h:jp f<;>simp
 | p :: l,f,out=>by
   rw[eO];by_cases hc:de (cr p.id) kind p=0
   ·rw[Fl (by simpa using hc)];by_cases ha:iC f kind p.id.toNat=true
    ·rw[if_pos ha];intro h;exact absurd h (by decide)
    ·rw[Fl ha];intro h;rw[mt kind l _ _ h];simp
   ·rw[if_pos hc];intro h;exact absurd h hc
theorem JR(kind:Int):∀(l:List Pr) (f:Nat->Nat) (out:List UInt8),(eO kind l f out).2≠0->(eO kind l f out).1=[]
 | [],f,out=>by
   rw[eO];cases h:jp f<;>simp
 | p :: l,f,out=>by
   rw[eO];by_cases hc:de (cr p.id) kind p=0
   ·rw[Fl (by simpa using hc)];by_cases ha:iC f kind p.id.toNat=true
    ·rw[if_pos ha];intro _;rfl
    ·rw[Fl ha];exact JR kind l _ _
   ·rw[if_pos hc];intro _;rfl
def okL(kind:Int)(l:List Pr):Prop:=ckL kind l/\(∀p∈l,gS kind p.id.toNat=false->cnt p.id.toNat l<=1)/\¬(0<cnt 22 l/\cnt 21 l=0)
theorem Cr(f:Nat->Nat):jp f=false↔¬(0<f 22/\f 21=0):=by
 unfold jp;rw[<-Bool.not_eq_true];simp
theorem yz(kind:Int)(l:List Pr):okL kind l↔(ckL kind l/\oK kind (λ_=>0) l/\jp (λk=>0+cnt k l)=false):=by
 unfold okL oK;rw[Cr];simp only[bV]
theorem sx(kind:Int)(l:List Pr):(aM kind l).2=0↔l.length<=1000/\okL kind l:=by
 unfold aM;by_cases h:1000<l.length
 ·rw[if_pos h];constructor
  ·intro h;exact absurd h (by decide)
  ·rintro ⟨a,_⟩;omega
 ·rw[Fl h,qL,yz];constructor
  ·intro a;exact⟨by omega,a⟩
  ·rintro ⟨_,a⟩;exact a
theorem tE(kind:Int)(l:List Pr)(h:(aM kind l).2=0):aM kind l=(eP (l.flatMap jI).length++l.flatMap jI,0):=by
 unfold aM at h⊢;by_cases a:1000<l.length
 ·rw[if_pos a]at h;exact absurd h (by decide)
 ·rw[Fl a]at h⊢;rw[mt kind l _ _ h];simp
theorem Ix(kind:Int)(l:List Pr)(h:(aM kind l).2≠0):(aM kind l).1=[]:=by
 unfold aM at h⊢;by_cases a:1000<l.length
 ·rw[if_pos a]
 ·rw[Fl a]at h⊢;exact JR kind l _ _ h
theorem KN{kind:Int}{p:Pr}(h:de (cr p.id) kind p=0):Km kind p.id=gS kind p.id.toNat:=by
 have b:=(nr h).1;have a:Jv kind p.id=true:=by
  unfold Jv;rcases hh:ng (cr p.id) kind with _| _
  ·unfold de at h;rw[if_pos hh]at h;exact absurd h (by decide)
  ·rfl
 have e:((p.id.toNat:Nat):Int)=p.id:=by omega
 unfold Km;rw[a,IK,e]
theorem ZL{kind:Int}{a b:List Pr}:ckL kind (a++b)↔ckL kind a/\ckL kind b:=by
 unfold ckL;constructor
 ·intro h;exact⟨λp c=>h p (cj.2 (.inl c)),λp c=>h p (cj.2 (.inr c))⟩
 ·rintro ⟨d,e⟩ p c;rcases cj.1 c with c| c
  ·exact d p c
  ·exact e p c
def nh(l:List Pr)(id:Int):Option Pr:=l.find? λp=>p.id==id
theorem zZ:(prog.info? 71).map (λi=>(i.zero,i.size,i.bytes))=some (some (.agg #[.int .i64 0,.int .u32 0,.string ⟨#[]⟩,.string ⟨#[]⟩]),4,48):=by kernel_rfl
theorem M9(w:abP):(sizeOf 71).run prog w= .ok 4 w:=by kernel_rfl
theorem Eb(l:List Pr):∀u∈prs l,u.oneCell'=true:=by
 intro u b;obtain⟨p,_,a⟩:=ou.1 b;simp[prC]at a;rcases a with rfl| rfl| rfl| rfl<;>rfl
theorem Oh(l:List Pr)(k:Nat):(prs l).take (k*4)=prs (l.take k):=by
 induction k generalizing l with
 | zero=>simp[prs]
 | succ k ih=>
   cases l with
   | nil=>simp[prs]
   | cons p l=>
     rw[show(k+1)*4=4+k*4 by omega];have:=ih l;simp[prs,prC]at this⊢;rw[show 4+k*4=k*4+1+1+1+1 by omega]
     simpa using this
theorem wK(a b:List Pr):prs (a++b)=prs a++prs b:=by simp[prs]
def wt(l:List Pr):Nat:=(l.map λp=>p.text.size+p.value.size).sum
theorem OT(l:List Pr)(k:Nat)(h:k<l.length):wt (l.take (k+1))=wt (l.take k)+l[k].text.size+l[k].value.size:=by
 unfold wt;rw[fE h,Ii,List.sum_append];simp only[fI,gC,SK,Ur];omega
def qc(p:Pr):Prop:=p.n<4294967296/\p.text.size<=140737488351232/\p.value.size<=140737488351232
theorem rU{p:Pr}(h:qc p):p.Ok:=⟨h.1,by have:=h.2.1;omega,by have:=h.2.2;omega⟩
def KT(l:List Pr):Prop:=∀p∈l,p.text.size<=140737488351232/\p.value.size<=140737488351232
theorem Jm{l:List Pr}(h:∀p∈l,qc p):KT l:=λp a=>(h p a).2
theorem PS:∀(l:List Pr),KT l->wt l<=l.length*281474976702464
 | [],_=>by simp[wt]
 | p :: l,h=>by
   have h1:=PS l (λq a=>h q (kV _ a));have b:=h p (by simp);simp[wt]at h1⊢;omega
theorem Me{l:List Pr}(h:KT l)(k:Nat):KT (l.take k):=λp a=>h p (IU a)
theorem Mb(l:List Pr)(A:Option Addr)(c:Nat)(w:abP)(h:Rd w w.heap.size 4 A l.length (prs l))(hl:l.length<=1010)(hs:KT l):
  abR 28 #[.slice A l.length c] w (.int .i64 (wt l)):=by
 have H:=aa h;have f:=aa hs;clear h hs
 go_enter func28,ntmps28;go_wp2
 go_loopw [3,4] (λn i wr=>∃k:Nat,k<=l.length/\i= .int .i64 k/\n= .int .i64 (wt (l.take k))/\abQ w wr) (λ_ i _=>l.length- (intOf i).toNat)
 case atStart=>exact⟨0,by omega,rfl,rfl,aq _ _⟩
 case round=>
  obtain⟨k,D,rfl,rfl,a⟩:=hrel;by_cases d:k<l.length
  ·obtain⟨b,o,rfl,C,r,s,u,x⟩:=(H.o.below a).atP d;have j:=f.o l[k] (iY d);have m:=PS (l.take k) (Me f.o k);rw[cY]at m;have y:wt (l.take k)<=284289726469488640:=by omega
   have g:=aa (OT l k d);clear m r s;generalize wt (l.take k)=q at*;generalize l[k]=p at*;obtain⟨E,n,t,v⟩:=p;simp only at j g u x;obtain⟨z,B⟩:=j;have F:IntKind.i64.wrap ((q:Int)+(t.size:Int))=(q:Int)+(t.size:Int):=by rw[aQ];omega
   have G:IntKind.i64.wrap ((q:Int)+(t.size:Int)+(v.size:Int))=(q:Int)+(t.size:Int)+(v.size:Int):=by rw[aQ];omega
   have b1:(0:Int)<=(k:Int):=by omega
   have b2:(k:Int)<(l.length:Int):=by omega
   go_wp2;go_quiet (fail);go_wp2;go_roundw
   case rel=>exact⟨k+1,by omega,by go_num,by rw[g.o];go_num,aV a _⟩
   case measure=>simp[intOf];omega
  ·obtain rfl:k=l.length:=by omega
   go_wp2;go_ret;exact⟨by rw[GK];rfl,a⟩
def Ig(l:List Pr):Bool:=decide (l.length<=1010)&&decide (wt l<=140000)
theorem Kq(l:List Pr)(A:Option Addr)(c:Nat)(w:abP)(h:Rd w w.heap.size 4 A l.length (prs l))(hl:l.length<=4611686018427387904)(hs:KT l):
  abR 19 #[.slice A l.length c] w (.bool (Ig l)):=by
 have H:=aa h;have f:=aa hs;clear h hs
 by_cases a:l.length<=1010
 ·have b:Hid (Ig l=decide (wt l<=140000)):=aa (by rw[Ig,au a,aL]);have g:(l.length:Int)<=1010:=by omega
  have d:=aa a;go_enter func19,ntmps19;go_wp2_with fail;refine Yg (Mb l A c _ H.o d.o f.o) λj i=>?_;go_wp2;go_ret;exact⟨by rw[b.o];congr 2;simp;omega,i⟩
 ·have b:Hid (Ig l=false):=aa (by rw[Ig,ah a,YH]);have g:(1010:Int)<(l.length:Int):=by omega
  clear a;go_enter func19,ntmps19;go_wp2;go_ret;exact⟨by rw[b.o];rfl,aq _ _⟩
def xg(l:List Pr)(id:Int):Pr:=(nh l id).getD ⟨0,0,⟨#[]⟩,⟨#[]⟩⟩
theorem CD(id:Int)(l:List Pr)(A:Option Addr)(c:Nat)(w:abP)(h:Rd w w.heap.size 4 A l.length (prs l))(hl:l.length<=4611686018427387904):
  abR 322 #[.slice A l.length c,.int .i64 id] w (.tuple #[(xg l id).val,.bool (nh l id).isSome]):=by
 have H:=aa h;clear h
 go_enter func322,ntmps322;go_wp2
 go_loopw [10] (λi wr=>∃k:Nat,k<=l.length/\i= .int .i64 k/\nh l id=nh (l.drop k) id/\Bk wr w.heap.size 71 #[.int .i64 0,.int .u32 0,.string ⟨#[]⟩,.string ⟨#[]⟩]/\abQ w wr) (λi _=>l.length- (intOf i).toNat)
 case atStart=>exact⟨0,by omega,rfl,rfl,Bk.fresh _ _ _,(aq _ _).alloc (ac _) _⟩
 case round=>
  obtain⟨k,R,rfl,E,g,d⟩:=hrel;have r:=aa E;have q:=aa g
  have S:=d.size;have F:=g.lt;clear E g;by_cases m:k<l.length
  ·obtain⟨b,o,rfl,Q,G,I,J,K⟩:=(H.o.below d).atP m;have C:=aa (bQ m);generalize l[k]=p at*;obtain⟨a,n,t,v⟩:=p;simp only at G I J K;have b1:(0:Int)<=(k:Int):=by omega
   have b2:(k:Int)<(l.length:Int):=by omega
   have B:=aa (q.o.alloc (.cells #[.int .i64 a,.int .u32 n,.string t,.string v] 71));have D:=aa (d.alloc (by omega) (.cells #[.int .i64 a,.int .u32 n,.string t,.string v] 71));by_cases j:a=id
   ·subst j;obtain⟨⟨u,x,y,z⟩,M,f1,N,O⟩:=q.o.four;have f:Hid (nh l a=some ⟨a,n,t,v⟩):=aa (by rw[r.o,C.o];simp[nh]);go_wp2;have s:=aa ((cD d (ac _) (.int .i64 a) (.int .u32 n) (.string t) (.string v)).alloc (by simp;omega) (.cells #[.int .i64 a,.int .u32 n,.string t,.string v] 71));exact abZ (v:=.tuple #[.agg #[.int .i64 a,.int .u32 n,.string t,.string v],.bool true]) (by simp[results,Tryz.results322,go_sem,F,u,x,y,z]) rfl ⟨by unfold xg;rw[f.o];rfl,s.o⟩
   ·have L:(a==id)=false:=ar.2 j;have f:Hid (nh l id=nh (l.drop (k+1)) id):=aa (by rw[r.o,C.o];simp[nh,L]);have P:=aa j;clear j
    go_wp2;go_roundw
    case rel=>exact⟨k+1,by omega,by go_num,f.o,B.o,D.o⟩
    case measure=>simp[intOf];omega
  ·obtain rfl:k=l.length:=by omega
   have f:Hid (nh l id=none):=aa (by rw[r.o,ox];rfl);obtain⟨⟨u,x,y,z⟩,M,f1,N,O⟩:=q.o.four;go_wp2;have s:=aa (cD d (ac _) (.int .i64 0) (.int .u32 0) (.string ⟨#[]⟩) (.string ⟨#[]⟩));exact abZ (v:=.tuple #[.agg #[.int .i64 0,.int .u32 0,.string ⟨#[]⟩,.string ⟨#[]⟩],.bool false]) (by simp[results,Tryz.results322,go_sem,u,x,y,z]) rfl ⟨by unfold xg;rw[f.o];rfl,s.o⟩
theorem TI{a b c a' b' c':Int}(h1:a=a')(h2:b=b')(h3:c=c'):Ending.returned (.tuple #[.int .i64 a,.int .i64 b,.int .i64 c])= .returned (.tuple #[.int .i64 a',.int .i64 b',.int .i64 c']):=by rw[h1,h2,h3]
theorem QM(s:abO)(w:abP)(hs:s.size<=4611686018427387904):
  abT 48 #[.string s] w (.tuple #[.int .i64 (YT (ls s)).1,.int .i64 (YT (ls s)).2.1,.int .i64 (YT (ls s)).2.2]):=by
 go_enter func48,ntmps48;go_wp2
 go_loop [5,6,7] (λn t i=>∃k m:Nat,k<=4/\k<=s.size/\i= .int .i64 k/\n= .int .i64 m/\t= .int .i64 ((128^ k:Nat):Int)/\m<2^ (7*k)/\YT (ls s)=(if k=4 then(0,0,5)else rv ((ls s).drop k) m k)) (λ_ _ i=>4- (intOf i).toNat)
 case atStart=>exact⟨0,0,by omega,by omega,rfl,rfl,rfl,by simp,rfl⟩
 case round=>
  obtain⟨k,m,F,C,rfl,rfl,rfl,g,z⟩:=hrel;have l:=aa z;clear z
  by_cases D:k<4
  ·by_cases y:k<s.size
   ·have q:=aa (DQ y m);have E:=UInt8.toNat_lt s[k];have A:((s[k].toNat:Nat):Int)<=255:=by omega
    have d:Hid (pushN m k s[k]=m+s[k].toNat% 128*2^ (7*k)):=rfl;have p:=aa (uN s[k] g);by_cases b:128<=s[k].toNat
    ·have f:Hid (YT (ls s)=if k+1=4 then(0,0,5)else rv ((ls s).drop (k+1)) (pushN m k s[k]) (k+1)):=aa (by
      rw[l.o,Fl (by omega),q.o,rv,if_pos b];by_cases x:k=3
      ·rw[if_pos x,if_pos (by omega)]
      ·rw[Fl x,Fl (by omega)])
     clear l q;obtain rfl| rfl| rfl| rfl:k=0\/k=1\/k=2\/k=3:=by omega
     ·simp only[Nat.reduceMul,Nat.reducePow]at g d;have c:(128:Int)<=(s[0].toNat:Int):=by omega
      have a:(0:Int)<(s.size:Int):=by omega
      have j:¬s=ByteArray.empty:=λh=>by subst h;simp at a
      clear b;go_wp2
      go_round
      case rel=>exact⟨1,pushN m 0 s[0],by omega,by omega,rfl,congrArg (Value.int .i64) (by have:=d.o;omega),rfl,p.o,f.o⟩
      case measure=>simp[intOf]
     ·simp only[Nat.reduceMul,Nat.reducePow]at g d;have c:(128:Int)<=(s[1].toNat:Int):=by omega
      have a:(1:Int)<(s.size:Int):=by omega
      have j:¬s=ByteArray.empty:=λh=>by subst h;simp at a
      clear b;go_wp2
      go_round
      case rel=>exact⟨2,pushN m 1 s[1],by omega,by omega,rfl,congrArg (Value.int .i64) (by have:=d.o;omega),rfl,p.o,f.o⟩
      case measure=>simp[intOf]
     ·simp only[Nat.reduceMul,Nat.reducePow]at g d;have c:(128:Int)<=(s[2].toNat:Int):=by omega
      have a:(2:Int)<(s.size:Int):=by omega
      have j:¬s=ByteArray.empty:=λh=>by subst h;simp at a
      clear b;go_wp2
      go_round
      case rel=>exact⟨3,pushN m 2 s[2],by omega,by omega,rfl,congrArg (Value.int .i64) (by have:=d.o;omega),rfl,p.o,f.o⟩
      case measure=>simp[intOf]
     ·simp only[Nat.reduceMul,Nat.reducePow]at g d;have c:(128:Int)<=(s[3].toNat:Int):=by omega
      have a:(3:Int)<(s.size:Int):=by omega
      have j:¬s=ByteArray.empty:=λh=>by subst h;simp at a
      clear b;go_wp2
      go_round
      case rel=>exact⟨4,pushN m 3 s[3],by omega,by omega,rfl,congrArg (Value.int .i64) (by have:=d.o;omega),rfl,p.o,f.o⟩
      case measure=>simp[intOf]
    ·by_cases r:s[k].toNat=0/\0<k
     ·have f:Hid (YT (ls s)=(0,0,5)):=aa (by
       rw[l.o,Fl (by omega),q.o,rv,Fl b,if_pos r])
      have u:(s[k].toNat:Int)=0:=by omega
      have B:=r.2;clear l q r;obtain rfl| rfl| rfl| rfl:k=0\/k=1\/k=2\/k=3:=by omega
      ·omega
      ·simp only[Nat.reduceMul,Nat.reducePow]at g d;have c:(s[1].toNat:Int)<128:=by omega
       have o:((s[1].toNat:Int)==0)=true:=aK.2 u;have a:(1:Int)<(s.size:Int):=by omega
       clear b u;go_wp2;go_ret3;exact⟨by rw[f.o];rfl,rfl⟩
      ·simp only[Nat.reduceMul,Nat.reducePow]at g d;have c:(s[2].toNat:Int)<128:=by omega
       have o:((s[2].toNat:Int)==0)=true:=aK.2 u;have a:(2:Int)<(s.size:Int):=by omega
       clear b u;go_wp2;go_ret3;exact⟨by rw[f.o];rfl,rfl⟩
      ·simp only[Nat.reduceMul,Nat.reducePow]at g d;have c:(s[3].toNat:Int)<128:=by omega
       have o:((s[3].toNat:Int)==0)=true:=aK.2 u;have a:(3:Int)<(s.size:Int):=by omega
       clear b u;go_wp2;go_ret3;exact⟨by rw[f.o];rfl,rfl⟩
     ·have f:Hid (YT (ls s)=(pushN m k s[k],k+1,0)):=aa (by
       rw[l.o,Fl (by omega),q.o,rv,Fl b,Fl r])
      have v:=aa r;clear l q r;obtain rfl| rfl| rfl| rfl:k=0\/k=1\/k=2\/k=3:=by omega
      ·simp only[Nat.reduceMul,Nat.reducePow]at g d;have c:(s[0].toNat:Int)<128:=by omega
       have a:(0:Int)<(s.size:Int):=by omega
       have j:¬s=ByteArray.empty:=λh=>by subst h;simp at a
       clear b;go_wp2;go_ret3;exact⟨by rw[f.o];exact TI (by have:=d.o;show _=((pushN m 0 s[0]:Nat):Int);omega) rfl rfl,rfl⟩
      ·simp only[Nat.reduceMul,Nat.reducePow]at g d;have c:(s[1].toNat:Int)<128:=by omega
       have o:((s[1].toNat:Int)==0)=false:=ar.2 (λh=>v.o ⟨by omega,by omega⟩);have a:(1:Int)<(s.size:Int):=by omega
       have j:¬s=ByteArray.empty:=λh=>by subst h;simp at a
       clear b;go_wp2;go_ret3;exact⟨by rw[f.o];exact TI (by have:=d.o;show _=((pushN m 1 s[1]:Nat):Int);omega) rfl rfl,rfl⟩
      ·simp only[Nat.reduceMul,Nat.reducePow]at g d;have c:(s[2].toNat:Int)<128:=by omega
       have o:((s[2].toNat:Int)==0)=false:=ar.2 (λh=>v.o ⟨by omega,by omega⟩);have a:(2:Int)<(s.size:Int):=by omega
       have j:¬s=ByteArray.empty:=λh=>by subst h;simp at a
       clear b;go_wp2;go_ret3;exact⟨by rw[f.o];exact TI (by have:=d.o;show _=((pushN m 2 s[2]:Nat):Int);omega) rfl rfl,rfl⟩
      ·simp only[Nat.reduceMul,Nat.reducePow]at g d;have c:(s[3].toNat:Int)<128:=by omega
       have o:((s[3].toNat:Int)==0)=false:=ar.2 (λh=>v.o ⟨by omega,by omega⟩);have a:(3:Int)<(s.size:Int):=by omega
       have j:¬s=ByteArray.empty:=λh=>by subst h;simp at a
       clear b;go_wp2;go_ret3;exact⟨by rw[f.o];exact TI (by have:=d.o;show _=((pushN m 3 s[3]:Nat):Int);omega) rfl rfl,rfl⟩
   ·obtain rfl:k=s.size:=by omega
    have f:Hid (YT (ls s)=(0,0,3)):=aa (by
     rw[l.o,Fl (by omega),gD (by rw[aN];omega)];rfl)
    clear l;go_wp2;go_ret3;exact⟨by rw[f.o];rfl,rfl⟩
  ·obtain rfl:k=4:=by omega
   have f:Hid (YT (ls s)=(0,0,5)):=aa (by rw[l.o,if_pos rfl]);clear l;go_wp2;go_ret3;exact⟨by rw[f.o];rfl,rfl⟩
section
attribute [local go_sem ↓] Go.wp_at_zero Go.wp_at_succ
def gZ(w0 x:abP):Prop:=abQ w0 x
section
variable {w0 x y:abP}
theorem gZ.below(h:gZ w0 x)(hb:abQ x y):gZ w0 y:=Below.trans h (hb.mono (Below.size h))
theorem gZ.alloc(h:gZ w0 x)(o:Obj):gZ w0 (x.alloc o):=Below.alloc h (Below.size h) o
theorem gZ.app{v:Value}(h:gZ w0 x)(hg:x.grownBy y v.ownBlock)(hv:∀k,v.ownBlock=some k->w0.heap.size<=k):gZ w0 y:=Below.grown h hg (Below.size h) hv
end
theorem UB(kind:Int)(l:List Pr)(n:Nat)(hn:l.length=n)(hok:∀p∈l,qc p)(A:Option Addr)(cap:Nat)(w:abP)(h:Rd w w.heap.size 4 A n (prs l))(hl:n<=4611686018427387904):
  abR 155 #[.int .i64 kind,.slice A n cap] w (.tuple #[.string ⟨(aM kind l).1.toArray⟩,.int .i64 (aM kind l).2]):=by
 subst hn;exact xA kind l (λp a=>rU (hok p a)) A cap w h hl
theorem gu(kind:Int)(l:List Pr)(n:Nat)(hn:l.length=n)(hok:∀p∈l,qc p)(A:Option Addr)(cap:Nat)(w:abP)(h:Rd w w.heap.size 4 A n (prs l))(hl:n<=4611686018427387904):
  abR 210 #[.int .i64 kind,.slice A n cap] w (.int .i64 (aM kind l).2):=by
 subst hn;exact vZ kind l (λp a=>rU (hok p a)) A cap w h hl
theorem aby(w:abP)(p:Pr):Rd (w.alloc (.cells #[.int .i64 p.id,.int .u32 p.n,.string p.text,.string p.value] 71)) (w.heap.size+1) 4 (some ⟨w.heap.size,0,none⟩) 1 (prs [p]):=by
 have:=abL w #[.int .i64 p.id,.int .u32 p.n,.string p.text,.string p.value] 71 [p] rfl
 simpa using this
end
theorem Jw{kind:Int}:∀ {l:List Pr},ckL kind l->(l.flatMap jI).length<=l.length*131075
 | [],_=>by simp
 | p :: l,h=>by
   have h1:=zC (h p (by simp));have b:=Jw (λq a=>h q (kV _ a));rw[YS,List.length_append,bM];omega
theorem G6(kind:Int)(l:List Pr)(h:(aM kind l).2=0):(l.flatMap jI).length<=131075000/\(aM kind l).1.length<=131075004:=by
 have b:=tE kind l h;obtain⟨c,a,_⟩:=(sx kind l).1 h;have d:=Jw a;refine⟨by omega,?_⟩;rw[b];have:=mO 3 (l.flatMap jI).length;simp only[eP,List.length_append];omega
theorem GW(l:List UInt8):(⟨l.toArray⟩:abO).size=l.length:=by show l.toArray.size=_;simp
theorem P7(a b:List UInt8):(⟨(a++b).toArray⟩:abO)=⟨a.toArray⟩++⟨b.toArray⟩:=(FE a b).symm
instance:DecidableEq Pr:=λa b=>decidable_of_iff (a.id=b.id/\a.n=b.n/\a.text=b.text/\a.value=b.value) (by cases a;cases b;simp)
theorem zD(a b:Pr):a=b↔a.id=b.id/\a.n=b.n/\a.text=b.text/\a.value=b.value:=by cases a;cases b;simp
theorem uc:prog.eqGuardType prog.depth 71=false:=by kernel_rfl
theorem toList_inj(a b:abO):a.toList=b.toList↔a=b:=by
 rw[ByteArray.toList_eq,ByteArray.toList_eq];exact⟨λh=>eX h,λh=>by rw[h]⟩
theorem vC(p q:Pr)(w:abP):(binOp .eql 71 (.agg #[.int .i64 p.id,.int .u32 p.n,.string p.text,.string p.value]) (.agg #[.int .i64 q.id,.int .u32 q.n,.string q.text,.string q.value])).run prog w= .ok (.bool (decide (p=q))) w:=by
 have u1:=underlying3;have u2:=underlying69;have u3:=underlying9;have e:prog.underlying 71=some (.struct (prog.fieldsOf 71)):=by kernel_rfl
 have f:prog.stoodInHeld 71=false:=by kernel_rfl
 rw[run_eql_struct,show(10000:Nat)=9999+1 from rfl,run_equalIn_agg w 9999 71 _ _ e f];simp only[Program.fieldsOf,underlying71];go_simp;by_cases a:p.id=q.id<;>by_cases b:p.n=q.n<;>by_cases c:p.text=q.text<;>by_cases d:p.value=q.value<;>simp[zD,a,b,c,d,toList_inj]<;>omega
theorem Cb(p q:Pr)(w:abP):(binOp .neq 71 (.agg #[.int .i64 p.id,.int .u32 p.n,.string p.text,.string p.value]) (.agg #[.int .i64 q.id,.int .u32 q.n,.string q.text,.string q.value])).run prog w= .ok (.bool (!decide (p=q))) w:=by
 have h:=vC p q w;rw[run_eql_struct]at h;rw[run_neq_struct];generalize (Op.equalIn 10000 _ _ _).run prog w=r at h⊢;cases r with
 | ok b w'=>simp[Result.andThen]at h⊢;obtain⟨rfl,rfl⟩:=h;simp
 | halt x w'=>simp[Result.andThen]at h
theorem oJ(A A':Option Addr)(n m c c':Nat)(l l':List Pr)(w:abP)(e1:l.length=n)(e2:l'.length=m)(hl:Rd w w.heap.size 4 A n (prs l))(hm:Rd w w.heap.size 4 A' m (prs l'))(hn:n<=4611686018427387904)(hn':m<=4611686018427387904):
  abR 36 #[.slice A n c,.slice A' m c'] w (.bool (decide (l=l'))):=by
 have G:=uc;by_cases g:n=m
 ·subst g;have d:=aa e1;have f:=aa e2;clear e1 e2
  have B:=aa hl;have C:=aa hm;clear hl hm
  go_enter func36,ntmps36;go_wp2
  go_loopw [5] (λi wr=>∃k:Nat,k<=n/\i= .int .i64 k/\(∀j,j<k->l[j]? =l'[j]?)/\abQ w wr) (λi _=>n- (intOf i).toNat)
  case atStart=>exact⟨0,by omega,rfl,λj t=>by omega,aq _ _⟩
  case round=>
   obtain⟨k,T,rfl,o,a⟩:=hrel;have x:=aa o;clear o
   by_cases b:k<n
   ·obtain⟨I,U,rfl,S,J,K,L,M⟩:=(show Rd w w.heap.size 4 A l.length (prs l) by rw[d.o];exact B.o).below a |>.atP (show k<l.length by rw[d.o];exact b);obtain⟨E,H,rfl,F,N,O,P,Q⟩:=(show Rd w w.heap.size 4 A' l'.length (prs l') by rw[f.o];exact C.o).below a |>.atP (show k<l'.length by rw[f.o];exact b);have y:Hid (l[k]? =some (l[k]'(by rw[d.o];exact b))):=aa (List.getElem?_eq_getElem _);have u:Hid (l'[k]? =some (l'[k]'(by rw[f.o];exact b))):=aa (List.getElem?_eq_getElem _);generalize l[k]'(by rw[d.o];exact b)=p at*;generalize l'[k]'(by rw[f.o];exact b)=q at*;have b1:(0:Int)<=(k:Int):=by omega
    have b2:(k:Int)<(n:Int):=by omega
    have v:=λW=>Cb p q W;by_cases s:p=q
    ·subst s;have r:decide (p=p)=true:=by simp
     rw[r]at v;clear r;go_wp2;go_quiet (fail);go_wp2;go_roundw
     case rel=>
      refine⟨k+1,by omega,by go_num,λj t=>?_,aV a _⟩;rcases dx.1 t with h| rfl
      ·exact x.o j h
      ·rw[y.o,u.o]
     case measure=>simp[intOf];omega
    ·have r:decide (p=q)=false:=ah s;rw[r]at v;have z:=aa s;clear s r
     go_wp2;go_quiet (fail);go_wp2;go_ret;refine⟨?_,aV a _⟩;have:l≠l':=by
      rintro rfl;have:=y.o.symm.trans u.o;exact z.o (by simpa using this)
     simp[this]
   ·go_wp2;go_ret;refine⟨?_,a⟩;have:l=l':=by
     apply dM;intro j;by_cases t:j<k
     ·exact x.o j t
     ·rw[aG (by have:=d.o;omega),aG (by have:=f.o;omega)]
    simp[this]
 ·have R:((n:Int) != (m:Int))=true:=by simpa using (by omega:¬(n:Int)=(m:Int))
  have D:=aa g;have d:=aa e1;have f:=aa e2;clear g e1 e2 hl hm
  go_enter func36,ntmps36;go_wp2;go_ret;refine⟨?_,aq _ _⟩;have:l≠l':=by
   rintro rfl;exact D.o (d.o.symm.trans f.o)
  simp[this]
end Go.Proofs.YtafoknnjekegkaaGreatDoor
namespace Go.Proofs.YtafoknnjekegkaaGreatDoor
open Go.ChangeShapes Go.WideShapes Go.ChangeAt Go.RowKit
open Go.Proofs.Tryz
section
variable {H:Type} {enc:TypeId×Value->H} {P:Program} {W W':abP}
theorem mR(hl:laidOutB P=true)(hb:abQ W W'){sp:Nat->Bool}:∀ {ts:List TypeId} {vs:List Value} {ds:List (DataW H)} {ps:List MemPlace},
  (∀t∈ts,P.readableRec t=true/\t<P.types.size)->DataW.TrodAll enc P W 0 (λ_=>true) true ts vs ds ps->(∀p∈ps,p.block<W.heap.size)->(∀p∈ps,sp p.block=true)->
  DataW.TrodAll enc P W' 0 sp true ts vs ds ps
 | [],[],[],_,_,h,_,_=>h
 | t :: ts,v :: vs,d :: ds,ps,ht,⟨p,q,h1,h2,e⟩,hlt,hsp=>by
   subst e;refine⟨p,q,?_,?_,rfl⟩
   ·obtain⟨hr,hrow⟩:=ht t (by simp);exact WideElems.Trod_stays hl hr hrow h1 (λx a=>hb.same (hlt x (by simp[a]))) (λx a=>hsp x (by simp[a]))
   ·exact mR hl hb (λc b=>ht c (by simp[b])) h2 (λx a=>hlt x (by simp[a])) (λx a=>hsp x (by simp[a]))
theorem qr{f:Func}{s:ChangeSpec}{fresh handsOn again:Bool}{args:Array Value}{ds:List (DataW H)}{before:List MemPlace}{tb:TypeId}(hl:laidOutB P=true)
  (hts:∀t∈f.params.toList,P.readableRec t=true/\t<P.types.size)(hv:s.vars=[])(hres:f.resultTypes= #[tb])(htb:P.underlying tb=some .bool)
  (hW:DataW.Whole enc P f.params.toList s.vars false W args.toList ds [] before)(hspec:s.fn H (ds++[])= {results:=[.lit (.bool true)],args:=ds})(hb:abQ W W'):
  s.post enc P f false fresh handsOn again W args (.bool true) W':=by
 have g:∀p∈before,p.block<W.heap.size:=λp k=>hW.lt p k;have m:=hW;obtain⟨p,q,v,l,o,z,_⟩:=hW;have y:q=[]:=by
  rw[hv]at l;exact l
 subst y;rw[YO]at o;subst o;have c:∀a:Nat->Bool,(∀x∈before,a x.block=true)->DataW.TrodAll enc P W' 0 a true f.params.toList args.toList (s.fn H (ds++[])).args before:=λa u=>by
  rw[hspec];exact mR hl hb hts v g u
 have d:∀a:Nat->Bool,DataW.TrodVars enc P W' a s.vars (s.fn H (ds++[])).vars []:=λa=>by
  rw[hspec,hv];exact rfl
 have r:∀(b:Nat) (a:Nat->Bool) (n:Bool),DataW.TrodAll enc P W' b a n f.resultTypes.toList ((Value.bool true).resultList f.resultTypes.size) (s.fn H (ds++[])).results []:=λb a n=>by
  rw[hspec,hres];exact trodAll_cons_mk (shut_bool htb _) trodAll_mk0
 have j:∀x∈before,(λb=>decide (b<W.heap.size)) x.block=true:=λx e=>by simpa using g x e
 refine⟨ds,[],before,[],before,[],m,r _ _ _,c _ j,d _,World.keptBut_mono (λx e=>⟨e,.inr (by simpa using e)⟩) (hb.frame (· ∈before)),λ_=>?_⟩;refine⟨ok_one hres rfl (okWide_bool_mk htb _),_,_,([]++before)++[],⟨[]++before,[],trodAll_append (c _ (λ_ _=>rfl)) (r _ _ _),d _,rfl,?_,?_⟩,?_⟩
 ·intro b i k;have h:MemPlace.cell b i∈before:=by simpa using k
  rw[hb.frozen (g _ h)];exact z b i h
 ·intro w;cases w
 ·intro x e _
  simpa using e
end
theorem xI{P:Program}{ts:List TypeId}(h:(ts.all λt=>P.readableRec t&&decide (t<P.types.size))=true):∀t∈ts,P.readableRec t=true/\t<P.types.size:=by
 intro t a;have:=dL.1 h t a
 simpa using this
theorem qt:laidOutB prog=true:=by kernel_rfl
theorem lF:ownKnob prog.godebug=none:=by kernel_rfl
end Go.Proofs.YtafoknnjekegkaaGreatDoor
namespace Go.Proofs.YtafoknnjekegkaaGreatDoor
open Go.ChangeShapes Go.WideShapes Go.ChangeAt Go.RowKit Go.Deep
open Go.Proofs.Tryz
section
variable {H:Type} {enc:TypeId×Value->H} {P:Program} {w:abP} {base:Nat} {spare:Nat->Bool} {held:Bool}
def fu(P:Program)(t:TypeId)(d:DataW H):Prop:=∀z∈d.weights P t,z<=reachBytes
theorem fJ{e:TypeId}:∀ {ds:List (DataW H)} {d:DataW H},d∈ds->∀z∈d.weights P e,z∈DataW.weightsAll P e ds
 | [],_,h,_,_=>by simp at h
 | x :: ds,d,h,z,hz=>by
   unfold DataW.weightsAll;rcases ie.1 h with rfl| h
   ·exact cj.2 (.inl hz)
   ·exact cj.2 (.inr (fJ h z hz))
theorem fu.elem{t e:TypeId}{l r:List (DataW H)}(ht:P.underlying t=some (.slice e))(h:fu P t (.slice l r)){d:DataW H}(hd:d∈l):fu P e d:=λz a=>h z (by
 simp only[DataW.weights,ht];exact kV _ (cj.2 (.inl (fJ hd z a))))
theorem fu.len{t e:TypeId}{l r:List (DataW H)}(ht:P.underlying t=some (.slice e))(h:fu P t (.slice l r)):l.length*P.bytesOf e<=reachBytes:=by
 have:=h ((l.length+r.length)*P.bytesOf e) (by simp[DataW.weights,ht]);exact aC (iH _ (by omega)) this
theorem fu.str{t:TypeId}{s:List UInt8}(h:fu P t (.lit (.string s):DataW H)):s.length<=reachBytes:=h _ (by simp[DataW.weights])
theorem sized_at{ts:List TypeId}{ds:List (DataW H)}(h:(DataW.weightsEach P ts ds).all (· <=reachBytes)=true){j:Nat}{t:TypeId}{d:DataW H}(ht:ts[j]? =some t)(hd:ds[j]? =some d):fu P t d:=λz a=>by
 have:=dL.1 h _ (DataW.weights_mem_each ht hd z a)
 simpa using this
theorem iA{X:Type}{k:Nat}{C:X->List Value}(hk:∀x,(C x).length=k):∀l:List X,(l.flatMap C).length=l.length*k
 | []=>by simp
 | x :: l=>by
   rw[YS,List.length_append,hk,iA hk l,bM,iK];omega
theorem kQ{X:Type}{k:Nat}{C:X->List Value}(hk:∀x,(C x).length=k):∀(l:List X) (i r:Nat) (h:i<l.length),r<k->(l.flatMap C)[i*k+r]? =(C l[i])[r]?
 | x :: l,0,r,_,hr=>by
   rw[jU,bV,YS,jd (by rw[hk];exact hr)];rfl
 | x :: l,i+1,r,h,hr=>by
   have ih:=kQ hk l i r (by simpa using h) hr;rw[YS,iM (by rw[hk,iK];omega),hk];rw[show(i+1)*k+r- k=i*k+r by rw[iK];omega];exact ih
theorem rX{X:Type}[Inhabited X]{k:Nat}(C:X->List Value)(hk:∀x,(C x).length=k)(hk0:0<k){t e:TypeId}(ht:P.underlying t=some (.slice e))(hc:P.cellsOf e=k)(good:X->Prop)
  (hel:∀(n:Nat) (cs:List Value) (D:DataW H) (Pl:List MemPlace),DataW.trod enc P w base spare held n e cs=some (D,Pl)->fu P e D->(∀x∈Pl,x.block<w.heap.size)->∃x,cs=C x/\good x)
  {fuel:Nat}{cs:List Value}{d:DataW H}{ps:List MemPlace}(h:DataW.trod enc P w base spare held fuel t cs=some (d,ps))(hs:fu P t d)(hlt:∀x∈ps,x.block<w.heap.size):
  ∃(A:Option Addr) (l:List X) (c:Nat),cs=[.slice A l.length c]/\Rd w w.heap.size k A l.length (l.flatMap C)/\(∀x∈l,good x)/\l.length*P.bytesOf e<=reachBytes/\l.length<=c/\c<=maxLen:=by
 rcases open_slice ht h with ⟨rfl,_⟩ | ⟨a,len,cap,m,n,D,Pl,rfl,_,V,Q,G,p,N⟩
 ·exact⟨none,[],0,rfl,Rd.nil _ _ _ _,by simp,by simp,ac _,by unfold maxLen;omega⟩
 ·simp only[bG]at p;obtain⟨rfl,rfl⟩:=p;have T:len<=m:=by rw[G];split<;>omega
  have s:∀i,i<len->∃x,good x/\∀r u,(C x)[r]? =some u->w.cell? (a.add (i*k+r))=some u:=by
   intro i o;obtain⟨z,B,K⟩:=N i (by omega);obtain⟨x,rfl,M⟩:=hel n z _ _ K (hs.elem ht (jX.2 ⟨i,gn.2 o,rfl⟩)) (λy S=>hlt y (cj.2 (.inr (ou.2 ⟨i,gn.2 (by omega),S⟩))));refine⟨x,M,λr u g=>?_⟩;rw[hc]at B;obtain⟨_,U,L⟩:=World.cells?_some B;have R:r<k:=by
    rcases fj r k with h| h
    ·exact h
    ·rw[aG (by rw[hk];exact h)]at g;cases g
   have:=L r R;rw[add_add]at this;rw[this,g]
  obtain⟨f,E⟩:=choose_lt s;have b:((List.range len).map f).length=len:=by simp
  refine⟨some a,(List.range len).map f,cap,by rw[b],?_,?_,?_,by omega,Q⟩
  ·by_cases J:len=0
   ·subst J;exact Rd.nil _ _ _ _
   ·rw[b];refine qX (by rw[iA hk,b]) ?_ ?_
    ·have v:(MemPlace.cell a.block a.off)∈MemPlace.row a (m*P.cellsOf e):=by
      refine MemPlace.mem_row.2 ⟨0,?_,by simp⟩;rw[hc];exact Nat.mul_pos (by omega) hk0
     exact hlt _ (cj.2 (.inl v))
    ·intro j u g;have O:j<len*k:=by
      rcases fj j (len*k)with h| h
      ·exact h
      ·rw[aG (by rw[iA hk,b];exact h)]at g;cases g
     have q:j/ k<len:=iJ (by rw[eV];exact O);have I:j% k<k:=iI _ hk0;have e:j=j/ k*k+j% k:=by rw[eV];exact(Nat.div_add_mod j k).symm
     rw[e,kQ hk _ _ _ (by rw[b];exact q) I]at g;rw[e];exact(E _ q).2 _ _ (by simpa using g)
  ·intro x p;obtain⟨i,F,rfl⟩:=jX.1 p;exact(E i (gn.1 F)).1
  ·have:=hs.len ht
   simpa using this
theorem Ms{fs:Array Field}{n:Nat}{cs:List Value}{xs:List (DataW H×List MemPlace)}(hone:oneCellFields P fs=true)
  (hf:∀(i:Nat) (f:Field),fs[i]? =some f->DataW.trod enc P w base spare held n f.type ((cs.drop f.offset).take (P.cellsOf f.type))=xs[i]?):
  ∀(i:Nat) (f:Field),fs[i]? =some f->DataW.trod enc P w base spare held n f.type ((cs.drop i).take 1)=xs[i]? :=by
 intro i f a;obtain⟨c,b⟩:=hone_of hone i f a;have:=hf i f a;rwa[c,b]at this
end
instance:Inhabited Pr:=⟨⟨0,0,⟨#[]⟩,⟨#[]⟩⟩⟩
theorem OZ(p:Pr):(prC p).length=4:=rfl
section
variable {H:Type} {enc:TypeId×Value->H} {w:abP} {base:Nat} {spare:Nat->Bool} {held:Bool}
theorem Ns{n:Nat}{cs:List Value}{D:DataW H}{Pl:List MemPlace}(h:DataW.trod enc prog w base spare held n 71 cs=some (D,Pl))(hs:fu prog 71 D):∃p,cs=prC p/\qc p:=by
 obtain⟨v,z,rfl,j,b,k,t⟩:=Iy underlying71 h;simp only[bG]at j;obtain⟨rfl,rfl⟩:=j;have i:prog.cellsOf 71=4:=by kernel_rfl
 have a:=Ms (by kernel_rfl) t;rw[i]at b
 match cs,b with
 | [c0,c1,c2,c3],_=>
   match v,k with
   | [y0,y1,y2,y3],_=>
     have o:=a 0 _ rfl;have q:=a 1 _ rfl;have r:=a 2 _ rfl;have s:=a 3 _ rfl;obtain⟨x,d,rfl,_⟩:=GB underlying3 o;obtain⟨c,e,rfl,u⟩:=GB underlying69 q;obtain⟨l,f,rfl,_⟩:=GH underlying9 r;obtain⟨m,g,rfl,_⟩:=GH underlying9 s;simp only[Yl,ji,GG,GZ,gY,Hj]at d e f g;subst d e f g;have y:0<=c/\c<4294967296:=by
      simp[Lit.wf,IntKind.min,IntKind.max,IntKind.bits,IntKind.signed]at u;omega
     refine⟨⟨x,c.toNat,l,m⟩,?_,by simp only;omega,?_,?_⟩
     ·simp only[prC];rw[show((c.toNat:Nat):Int)=c by omega]
     ·have:=hs l.data.toList.length (by simp[DataW.weights,DataW.weightsEach,underlying71])
      simpa [reachBytes]using this
     ·have:=hs m.data.toList.length (by simp[DataW.weights,DataW.weightsEach,underlying71])
      simpa [reachBytes]using this
theorem Ki{fuel:Nat}{cs:List Value}{d:DataW H}{ps:List MemPlace}(h:DataW.trod enc prog w base spare held fuel 24 cs=some (d,ps))(hs:fu prog 24 d)(hlt:∀x∈ps,x.block<w.heap.size):
  ∃(A:Option Addr) (l:List Pr) (c:Nat),cs=[.slice A l.length c]/\Rd w w.heap.size 4 A l.length (prs l)/\(∀p∈l,qc p)/\l.length<=2932031007317/\l.length<=c/\c<=maxLen:=by
 obtain⟨A,l,c,a,b,e,f,g⟩:=rX prC OZ (by omega) underlying24 (by kernel_rfl) qc (λn cs D j h hs _=>Ns h hs) h hs hlt;refine⟨A,l,c,a,b,e,?_,g⟩;have i:prog.bytesOf 71=48:=by kernel_rfl
 rw[i,reachBytes]at f;omega
end
