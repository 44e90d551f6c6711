/- A part of what the laws stand on: MqA, HdC, ConB, ConC, ConD, ConE. -/
import Derived.Test.YtbdgkkmbnahgiaaGreatDoorMxG0SubF
import Derived.Laws.Rows
set_option maxRecDepth 10000
set_option maxHeartbeats 8000000
namespace Go.Proofs.YtbdgkkmbnahgiaaGreatDoor
open Go.RowKit Go.Proofs.Tryz
def chB(v:Int)(p:Pk):ByteArray×Int:=
 if p.kind<=2 then Dm v p
 else if p.kind=3 then Gf v p
 else if p.kind<=7 then(⟨(Ga v p).1.toArray⟩,(Ga v p).2)
 else if p.kind<=11 then sbB v p
 else(⟨(FY v p).1.toArray⟩,(FY v p).2)
def chE(v:Int)(p:Pk):Int:=
 if p.kind<=2 then eR v p
 else if p.kind=3 then ii v p
 else if p.kind<=7 then eS v p
 else if p.kind<=11 then sbE v p
 else fH v p
def chR(v:Int)(h:Hdr)(s:ByteArray):Pk×Int:=
 if h.k<=2 then iB v h.k s
 else if h.k=3 then km v h.f s
 else if h.k<=7 then iW v h.k s
 else if h.k<=11 then sbR v h.k s
 else gX v h.k s
def mqE(v:Int)(p:Pk):Int:=
 if ba v=false then 2
 else if dS v p.kind=false then 8
 else if chE v p≠0 then chE v p
 else if 268435455<(chB v p).1.size then 4 else 0
def mqF(p:Pk):Int:=if p.kind=3 then ke p else gg p.kind
def mqS(v:Int)(p:Pk):ByteArray:=⟨(hdS p.kind (mqF p) (chB v p).1.size).toArray⟩++(chB v p).1
def mqB(v:Int)(p:Pk):ByteArray×Int:=if mqE v p=0 then(mqS v p,0)else(⟨#[]⟩,mqE v p)
def mqR(v:Int)(s:ByteArray):Pk×Nat×Int:=
 if(hdR v s).2.2≠0 then(pk0,0,(hdR v s).2.2)
 else if s.size<(hdR v s).2.1+(hdR v s).1.n then(pk0,0,3)
 else if(chR v (hdR v s).1 (s.extract (hdR v s).2.1 ((hdR v s).2.1+(hdR v s).1.n))).2=0 then((chR v (hdR v s).1 (s.extract (hdR v s).2.1 ((hdR v s).2.1+(hdR v s).1.n))).1,(hdR v s).2.1+(hdR v s).1.n,0)
 else(pk0,0,if(chR v (hdR v s).1 (s.extract (hdR v s).2.1 ((hdR v s).2.1+(hdR v s).1.n))).2=3 then 5 else(chR v (hdR v s).1 (s.extract (hdR v s).2.1 ((hdR v s).2.1+(hdR v s).1.n))).2)
theorem Wf{v:Int}{p:Pk}(h:chE v p=0):(chB v p).2=0:=by
 unfold chE at h;unfold chB;split
 ·rename_i h1;rw[if_pos h1]at h;rw[og h]
 rename_i h1;rw[ae h1]at h
 split
 ·rename_i h2;rw[if_pos h2]at h;unfold Gf;rw[if_pos h]
 rename_i h2;rw[ae h2]at h
 split
 ·rename_i h3;rw[if_pos h3]at h;unfold Ga;rw[if_pos h]
 rename_i h3;rw[ae h3]at h
 split
 ·rename_i h4;rw[if_pos h4]at h;unfold sbB;rw[if_pos h]
 rename_i h4;rw[ae h4]at h
 unfold FY;rw[if_pos h]
theorem Wa{v:Int}{p:Pk}(h:chE v p≠0):chB v p=(⟨#[]⟩,chE v p):=by
 unfold chE at h⊢;unfold chB;split
 ·rename_i h1;rw[if_pos h1]at h;exact VJ h
 rename_i h1;rw[ae h1]at h
 split
 ·rename_i h2;rw[if_pos h2]at h;unfold Gf;rw[ae h]
 rename_i h2;rw[ae h2]at h
 split
 ·rename_i h3;rw[if_pos h3]at h;unfold Ga;rw[ae h]
 rename_i h3;rw[ae h3]at h
 split
 ·rename_i h4;rw[if_pos h4]at h;unfold sbB;rw[ae h]
 rename_i h4;rw[ae h4]at h
 unfold FY;rw[ae h]
theorem Ol{v:Int}{p:Pk}(h:mqE v p=0):ba v=true/\dS v p.kind=true/\chE v p=0/\(chB v p).1.size<=268435455:=by
 unfold mqE at h;split at h
 ·cases h
 rename_i h1;split at h
 ·cases h
 rename_i h2;split at h
 ·rename_i h3;exact absurd h h3
 rename_i h3;split at h
 ·cases h
 rename_i h4;exact⟨by simpa using h1,by simpa using h2,il.1 h3,by omega⟩
theorem FD{v:Int}{p:Pk}(h1:ba v=true)(h2:dS v p.kind=true)(h3:chE v p=0)(h4:(chB v p).1.size<=268435455):mqE v p=0:=by
 unfold mqE;rw[ae (by rw[h1];decide),ae (by rw[h2];decide),ae (by rw[h3];decide),ae (by omega)]
theorem Ma{v:Int}{p:Pk}(h1:ba v=true)(h2:dS v p.kind=true)(h3:chE v p=0):eM v p=(mqF p,0)/\ff v p.kind (mqF p)=0:=by
 by_cases hk:p.kind=3
 ·have hp:ii v p=0:=by
   unfold chE at h3;rwa[ae (by omega),if_pos hk]at h3
  have hb:=(zB hp).flags;have hf:mqF p=ke p:=if_pos hk;refine⟨?_,nf.2 ⟨h1,h2,?_⟩⟩
  ·unfold eM;rw[ae (by rw[h1];decide),ae (by rw[h2];decide),ae (by omega),ae (by rw[hb];decide),hf]
  ·rw[hf,hk,KO];exact(Ks hb).1
 ·have hf:mqF p=gg p.kind:=ae hk;refine⟨?_,nf.2 ⟨h1,h2,?_⟩⟩
  ·unfold eM;rw[ae (by rw[h1];decide),ae (by rw[h2];decide),if_pos hk,hf]
  ·unfold eu;rw[ae hk,hf];simp
theorem OP{v:Int}{p:Pk}(h:chE v p=0)(hn:∀q∈p.props,q.n<4294967296)(hw:∀q∈p.will.props,q.n<4294967296)(n:Nat):chR v ⟨p.kind,mqF p,n⟩ (chB v p).1=(p,0):=by
 unfold chE at h;unfold chR chB;dsimp only;split
 ·rename_i h1;rw[if_pos h1]at h;exact MF h hn hw
 rename_i h1;rw[ae h1]at h
 split
 ·rename_i h2;rw[if_pos h2]at h
  unfold Gf mqF;rw[if_pos h,if_pos h2];exact Nq h hn p.payload
 rename_i h2;rw[ae h2]at h
 split
 ·rename_i h3;rw[if_pos h3]at h
  unfold Ga;rw[if_pos h];exact MJ (AJ h) hn (jo _)
 rename_i h3;rw[ae h3]at h
 split
 ·rename_i h4;rw[if_pos h4]at h
  unfold sbB;rw[if_pos h];exact Nf h hn (jo _)
 rename_i h4;rw[ae h4]at h
 unfold FY;rw[if_pos h];exact Mz (Ap h) hn (jo _)
theorem E7{v:Int}{x:Hdr}{s:ByteArray}{q:Pk}(hc:ff v x.k x.f=0)(h:chR v x s=(q,0)):chE v q=0/\(chB v q).1=s/\q.kind=x.k/\mqF q=x.f:=by
 obtain⟨-,-,hf⟩:=nf.1 hc;have hfix:x.k≠3->x.f=gg x.k:=fun hk=>by
  unfold eu at hf;rw[ae hk]at hf;exact aR hf
 unfold chR at h;split at h
 ·rename_i h1;obtain⟨a,b,c⟩:=Au h;have k1:q.kind<=2:=by rw[c];exact h1
  have k2:¬q.kind=3:=by omega
  simp only[chE,chB,mqF,if_pos k1,ae k2];exact⟨a,by rw[b],c,by rw[c];exact(hfix (by omega)).symm⟩
 rename_i h1;split at h
 ·rename_i h2;obtain⟨a,b,c⟩:=zy h;have k2:=(zB a).kind;have k1:¬q.kind<=2:=by omega
  simp only[chE,chB,mqF,Gf,if_pos k2,ae k1,if_pos a];exact⟨a,b,by rw[k2,h2],c⟩
 rename_i h2;split at h
 ·rename_i h3;rcases AF v x.k s with ⟨a,b⟩ | ⟨a,b,c,d⟩
  ·rw[h]at b;exact absurd rfl b
  ·rw[h]at b c d;dsimp only at b c d;have k1:¬q.kind<=2:=by omega
   have k2:¬q.kind=3:=by omega
   have k3:q.kind<=7:=by omega
   simp only[chE,chB,mqF,Ga,ae k2,ae k1,if_pos k3,if_pos b.ok];exact⟨b.ok,by rw[d,Ck],c,by rw[c];exact(hfix h2).symm⟩
 rename_i h3;split at h
 ·rename_i h4;obtain⟨a,b,c⟩:=Bf h;have k1:¬q.kind<=2:=by omega
  have k2:¬q.kind=3:=by omega
  have k3:¬q.kind<=7:=by omega
  have k4:q.kind<=11:=by omega
  simp only[chE,chB,mqF,sbB,ae k2,ae k1,ae k3,if_pos k4,if_pos a];exact⟨a,by rw[b,Ck],c,by rw[c];exact(hfix h2).symm⟩
 rename_i h4;rcases An v x.k s with ⟨a,b⟩ | ⟨a,b,c,d⟩
 ·rw[h]at b;exact absurd rfl b
 ·rw[h]at b c d;dsimp only at b c d;have k1:¬q.kind<=2:=by omega
  have k2:¬q.kind=3:=by omega
  have k3:¬q.kind<=7:=by omega
  have k4:¬q.kind<=11:=by omega
  simp only[chE,chB,mqF,FY,ae k2,ae k1,ae k3,ae k4,if_pos b.ok];exact⟨b.ok,by rw[d,Ck],c,by rw[c];exact(hfix h2).symm⟩
theorem Cg(v:Int)(p:Pk):ls (mqS v p)=hdS p.kind (mqF p) (chB v p).1.size++ls (chB v p).1:=by
 unfold mqS;rw[fe,jo]
theorem Cf(v:Int)(p:Pk):(mqS v p).size=(hdS p.kind (mqF p) (chB v p).1.size).length+(chB v p).1.size:=by
 rw[<-aN,Cg,List.length_append,aN]
theorem Em(v:Int)(p:Pk):2<=(mqS v p).size:=by
 rw[Cf];have:=EC p.kind (mqF p) (chB v p).1.size;omega
theorem L6{s:ByteArray}{A B R:List UInt8}(h:ls s=A++(B++R)):s.extract A.length (A.length+B.length)=⟨B.toArray⟩:=by
 apply eX;rw[db,h,List.drop_left,List.take_left,jo]
theorem Lb{v:Int}{p:Pk}(h:mqE v p=0)(hn:∀q∈p.props,q.n<4294967296)(hw:∀q∈p.will.props,q.n<4294967296){s:ByteArray}{R:List UInt8}(hs:ls s=ls (mqS v p)++R):
  mqR v s=(p,(mqS v p).size,0):=by
 obtain⟨h1,h2,h3,h4⟩:=Ol h;have hc:=(Ma h1 h2 h3).2;rw[Cg,List.append_assoc]at hs;have hr:=Ab hc h4 hs;have hx:s.extract (hdS p.kind (mqF p) (chB v p).1.size).length ((hdS p.kind (mqF p) (chB v p).1.size).length+(chB v p).1.size)=(chB v p).1:=by
  have:=L6 hs;rw[aN,Ck]at this;exact this
 have hle:¬s.size<(hdS p.kind (mqF p) (chB v p).1.size).length+(chB v p).1.size:=by
  have:=congrArg List.length hs;rw[aN,List.length_append,List.length_append,aN]at this;omega
 unfold mqR;rw[hr,ae (fun x=>x rfl),ae hle,hx,OP h3 hn hw,if_pos rfl,Cf]
theorem Ci{v:Int}{s:ByteArray}{q:Pk}{n:Nat}(h:mqR v s=(q,n,0)):mqE v q=0/\mqS v q=s.extract 0 n/\n<=s.size/\n=(mqS v q).size:=by
 unfold mqR at h;split at h
 ·rename_i h1;simp only[bG]at h;exact absurd h.2.2 h1
 rename_i h1;split at h
 ·simp at h
 rename_i h2;split at h
 ·rename_i h3;simp only[bG]at h;obtain⟨rfl,rfl,-⟩:=h;obtain⟨b1,b2,b3,b4,b5⟩:=kw (v:=v) (s:=s) (h:=(hdR v s).1) (a:=(hdR v s).2.1) (by rw[<-il.1 h1]);generalize hdR v s=r at*;obtain⟨c1,c2,c3,c4⟩:=E7 (q:=(chR v r.1 (s.extract r.2.1 (r.2.1+r.1.n))).1) b1 (by rw[<-h3]);generalize (chR v r.1 (s.extract r.2.1 (r.2.1+r.1.n))).1=q at*;obtain⟨k1,k2,-⟩:=nf.1 b1;have hsz:(chB v q).1.size=r.1.n:=by
   rw[c2,aj];omega
  have hS:mqS v q=s.extract 0 (r.2.1+r.1.n):=by
   apply eX;rw[Cg,c3,c4,hsz,c2,db];have:ls (s.extract 0 (r.2.1+r.1.n))=(ls s).take (r.2.1+r.1.n):=by
    have:=db s 0 (r.2.1+r.1.n);rwa[bV,cS]at this
   rw[this];generalize ls s=X at*;rw[b4]at b3⊢;generalize hdS r.1.k r.1.f r.1.n=Y at*;rw[b3,ot,bt (iX _ _),Nat.add_sub_cancel_left,List.drop_left]
  refine⟨FD k1 (by rw[c3];exact k2) c1 (by omega),hS,by omega,?_⟩;rw[hS,aj];omega
 ·rename_i h3;simp only[bG]at h;obtain⟨-,-,h4⟩:=h;split at h4
  ·cases h4
  ·exact absurd h4 h3
theorem Ch{v:Int}{s:ByteArray}(h:(mqR v s).2.2=0):2<=(mqR v s).2.1/\(mqR v s).2.1<=s.size:=by
 obtain⟨a,b,c,d⟩:=Ci (q:=(mqR v s).1) (n:=(mqR v s).2.1) (by rw[<-h]);have:=Em v (mqR v s).1;omega
def MV(v:Int)(p:Pk):Prop:=8<=p.kind/\p.kind<=11->(sbS v p).length<=140737488351232
theorem LD(v:Int){p:Pk}(h:Ie p=true):MV v p:=fun _=>aC (Mu v h) (by decide)
theorem AN(n:Nat):0<(eP n).length:=by
 unfold eP ig;split<;>simp
theorem tU(n:Nat)(w:World)(hn:n<=268435455):Calls prog 180 #[.int .i64 n] w fun e w'=>e= .returned (.int .i64 (eP n).length)/\Below w.heap.size w w':=by
 have hm:Hid (wT n=true):=by show _=_;simp[wT];omega
 have HB:=aa (aq w.heap.size w);go_enter func180,ntmps180
 go_wp2_with fail
 refine(qm n _).mono ?_;rintro e w1 ⟨rfl,rfl⟩;rw[hm.out];go_wp2
 go_loopw [0,3] (fun v o wr=>∃(m f j:Nat),f<=3/\m<128^ (f+1)/\j+f=4/\v= .int .i64 m/\o= .int .i64 j/\(eP n).length+1=j+(ig f m).length/\Below w.heap.size w wr) (fun v _ _=>(intOf v).toNat)
 case atStart=>exact⟨n,3,1,by omega,by simp;omega,by omega,rfl,rfl,by show _=1+(eP n).length;omega,HB.o⟩
 case round=>
  obtain⟨m,f,j,hf,hmf,hj,rfl,rfl,hv,hbel⟩:=hrel;have HV:=aa hv;have HBE:=aa hbel;have HMF:=aa hmf;have HJ:=aa hj
  have hj4:j<=4:=by omega
  have hm2:m<268435456:=by
   have:128^ (f+1)<=128^ 4:=df (by omega) (by omega);have h4:(128:Nat) ^ 4=268435456:=by decide
   omega
  clear hv hbel hmf hj hm
  by_cases hge:128<=m
  ·have hge':(128:Int)<=(m:Int):=by omega
   have HR:Hid (∃f',f=f'+1/\m/ 128<128^ (f'+1)/\(ig f m).length=1+(ig f' (m/ 128)).length):=aa (by
    have h1:=HMF.o;rcases dh f with rfl| h
    ·simp at h1;omega
    ·obtain⟨f',rfl⟩:∃f',f=f'+1:=⟨f- 1,by omega⟩;refine⟨f',rfl,?_,?_⟩
     ·rw[Nat.pow_succ]at h1;exact iJ (by rw[eV];exact h1)
     ·rw[ig,ae (by omega),bM,Nat.add_comm])
   go_wp2
   go_roundw
   case rel=>
    obtain⟨f',h0,h1,h2⟩:=HR.o;exact⟨m/ 128,f',j+1,by omega,h1,by have:=HJ.o;omega,by simp,by simp,by rw[HV.o,h2];omega,HBE.o⟩
   case measure=>simp[intOf];omega
  ·have hlt:(m:Int)<128:=by omega
   have HF:Hid ((eP n).length=j):=aa (by
    have:(ig f m).length=1:=by
     cases f with
     | zero=>rfl
     | succ f=>rw[ig,if_pos (by omega)];rfl
    have:=HV.o;omega)
   go_wp2;go_ret;exact⟨by rw[HF.o];rfl,HBE.o⟩
theorem rj(k f:Int)(w:World):Calls prog 179 #[.int .i64 k,.int .i64 f] w fun e w'=>e= .returned (.bool (eu k f))/\w=w':=by
 by_cases h3:k=3
 ·subst h3;rw[show eu 3 f=gd f from if_pos rfl];exact oQ f w
 ·have HE:Hid (eu k f=decide (f=gg k)):=aa (ae h3);have e3:(k !=3)=true:=aA.2 h3;clear h3;go_enter func179,ntmps179
  go_wp2_with fail
  refine(oS k _).mono ?_;rintro e w1 ⟨rfl,rfl⟩;go_wp2;go_ret;refine⟨eT ?_,rfl⟩;rw[HE.o]
  by_cases e:f=gg k<;>simp[e]
theorem vq(v k f:Int)(n:Nat)(w:World)(hn:n<=268435455):Calls prog 129 #[.int .i64 v,Cx ⟨k,f,n⟩] w fun e w'=>e= .returned (.int .i64 (ff v k f))/\Below w.heap.size w w':=by
 have HE:Hid (ff v k f=if ba v=false then 2 else if dS v k=false then 8 else if eu k f=false then 7 else 0):=aa rfl;have HB:=aa ((aq w.heap.size w).alloc (ac _) (.cells #[.int .i64 k,.int .i64 f,.int .i64 n] 112));have HN:=aa hn;have HP:Hid (0<(eP n).length):=aa (AN n);clear hn;show Calls _ _ #[.int .i64 v,.agg #[.int .i64 k,.int .i64 f,.int .i64 n]] _ _;go_enter func129,ntmps129
 go_wp2_with fail
 refine(j9 v _).mono ?_;rintro e w1 ⟨rfl,rfl⟩;cases hk:ba v
 ·have HX:Hid (ff v k f=2):=aa (by rw[HE.o,if_pos hk]);clear hk;go_wp2;go_ret;exact⟨by rw[HX.o];rfl,HB.o⟩
 have HE1:Hid (ff v k f=if dS v k=false then 8 else if eu k f=false then 7 else 0):=aa (by rw[HE.o,ae (fun x=>by rw[hk]at x;cases x)]);clear hk HE;have k1:(w.alloc (.cells #[.int .i64 k,.int .i64 f,.int .i64 n] 112)).cell? ⟨w.heap.size,0,none⟩=some (.int .i64 k):=(Bk.fresh w 112 _).cell 0;have k2:(w.alloc (.cells #[.int .i64 k,.int .i64 f,.int .i64 n] 112)).cell? ⟨w.heap.size,1,none⟩=some (.int .i64 f):=(Bk.fresh w 112 _).cell 1;have k3:(w.alloc (.cells #[.int .i64 k,.int .i64 f,.int .i64 n] 112)).cell? ⟨w.heap.size,2,none⟩=some (.int .i64 n):=(Bk.fresh w 112 _).cell 2
 go_wp2_with fail
 refine(lD v k _).mono ?_;rintro e w1 ⟨rfl,rfl⟩;cases hk:dS v k
 ·have HX:Hid (ff v k f=8):=aa (by rw[HE1.o,if_pos hk]);clear hk;go_wp2;go_ret;exact⟨by rw[HX.o];rfl,HB.o⟩
 have HE2:Hid (ff v k f=if eu k f=false then 7 else 0):=aa (by rw[HE1.o,ae (fun x=>by rw[hk]at x;cases x)]);clear hk HE1
 go_wp2_with fail
 refine(rj k f _).mono ?_;rintro e w1 ⟨rfl,rfl⟩;cases hk:eu k f
 ·have HX:Hid (ff v k f=7):=aa (by rw[HE2.o,if_pos hk]);clear hk;go_wp2;go_ret;exact⟨by rw[HX.o];rfl,HB.o⟩
 have HX:Hid (ff v k f=0):=aa (by rw[HE2.o,ae (fun x=>by rw[hk]at x;cases x)]);clear hk HE2
 go_wp2_with fail
 refine(tU n _ HN.o).mono ?_;rintro e w1 ⟨rfl,hb⟩;have HB2:=aa (HB.o.trans (hb.mono HB.o.size));clear hb
 obtain⟨m,hm⟩:∃m,(eP n).length=m:=⟨_,rfl⟩;have hp:=HP.o;rw[hm]at hp⊢;have e0:((m:Int)==0)=false:=ar.2 (by omega);clear hm HP hp;go_wp2;go_ret;exact⟨by rw[HX.o];rfl,HB2.o⟩
theorem Wh(k f:Nat)(hk:k<=15)(hf:f<=15):IntKind.u64.wrap (bits BinOp.or IntKind.i64 ((k:Int)*16) (f:Int))=((16*k+f:Nat):Int):=by
 have h1:=Wd (k*16) f (by omega) (by omega);have h2:k*16 ||| f=16*k+f:=by
  have:=Nat.two_pow_add_eq_or_of_lt (i:=4) (b:=f) (by omega) k;rw[eV k 16];exact this.symm
 rw[show((k:Int)*16)=((k*16:Nat):Int) by omega,h1,h2];simp[IntKind.wrap,IntKind.bits,IntKind.signed];omega
def hdB(v k f:Int)(n:Nat):List UInt8×Int:=if ff v k f=0 then(hdS k f n,0)else([],ff v k f)
theorem Vj(v k f:Int)(n:Nat)(w:World)(hn:n<=268435455):Calls prog 82 #[.int .i64 v,Cx ⟨k,f,n⟩] w fun e w'=>e= .returned (.tuple #[.string ⟨(hdB v k f n).1.toArray⟩,.int .i64 (hdB v k f n).2])/\Below w.heap.size w w':=by
 have HB:=aa ((aq w.heap.size w).alloc (ac _) (.cells #[.int .i64 k,.int .i64 f,.int .i64 n] 112));have HK:=aa (Bk.fresh w 112 #[.int .i64 k,.int .i64 f,.int .i64 n]);have HN:=aa hn;have HCK:=aa (fun W=>vq v k f n W hn);clear hn;show Calls _ _ #[.int .i64 v,.agg #[.int .i64 k,.int .i64 f,.int .i64 n]] _ _;simp only[Cx]at HCK;go_enter func82,ntmps82
 go_wp2_with fail
 refine(HCK.o _).mono ?_;rintro e w1 ⟨rfl,hb⟩;have HB1:=aa (HB.o.trans (hb.mono HB.o.size));have HK1:=aa (HK.o.below hb HK.o.lt);clear hb HB HK HCK
 by_cases h0:ff v k f=0
 rotate_left
 ·have HX:Hid (hdB v k f n=([],ff v k f)):=aa (ae h0);generalize ff v k f=x at*;have e0:(x !=0)=true:=aA.2 h0;clear h0;go_wp2;go_ret2;exact⟨by rw[HX.o];rfl,HB1.o⟩
 have HX:Hid (hdB v k f n=(hdS k f n,0)):=aa (if_pos h0);obtain⟨h1,h2,h3⟩:=nf.1 h0;have r1:=vk h2;have r2:=rm h3;rw[h0];clear h0 h1 h2 h3;obtain⟨kn,rfl⟩:∃kn:Nat,k=kn:=⟨k.toNat,by omega⟩;obtain⟨fn,rfl⟩:∃fn:Nat,f=fn:=⟨f.toNat,by omega⟩;have c0:=HK1.o.cell 0;have c1:=HK1.o.cell 1;have c2:=HK1.o.cell 2
 simp only[ay,aE,aB]at c0 c1 c2
 go_wp2_with fail
 refine(mP n _ HN.o).mono ?_;rintro e w2 ⟨rfl,hb⟩;have HB2:=aa (HB1.o.trans (hb.mono HB1.o.size));have HK2:=aa (HK1.o.below hb HK1.o.lt);clear hb c0 c1 c2;have c0:=HK2.o.cell 0;have c1:=HK2.o.cell 1
 simp only[ay,aE,aB]at c0 c1;have hor:=Wh kn fn (by omega) (by omega);have HPT:=aa (fun W=>pD (16*kn+fn) 1 W (by omega) (by decide) (by decide));have HS:Hid (hdS (kn:Int) (fn:Int) n=da (16*kn+fn) 1++eP n):=aa (by
  unfold hdS;rw[show(16*(kn:Int)+(fn:Int)).toNat=16*kn+fn by omega])
 obtain⟨m,hm⟩:∃m,16*kn+fn=m:=⟨_,rfl⟩;rw[hm]at hor HPT HS;clear hm
 go_wp2_with fail
 refine(HPT.o _).mono ?_;rintro e w3 ⟨rfl,hb⟩;have HB3:=aa (HB2.o.trans (hb.mono HB2.o.size));have hsm:¬(9223372036854775807<(da m 1).length+(eP n).length):=by
  rw[fM];have:(eP n).length<=4:=mO 3 n;omega
 clear hb c0 c1 hor HPT;go_wp2;go_ret2;exact⟨by rw[HX.o,HS.o];rfl,HB3.o⟩
theorem ml{fn:Func}{p u u':Tmp}{ty:TypeId}(h:fn.results= #[.cell p ty,.tmp u,.tmp u'])(tmps:Array Value)(P:Program)(w:World):
  (results fn tmps).run P w=((asAddr (tmps.getD p undef)).run P w).andThen fun a w₁=>((loadVar ty a).run P w₁).andThen fun v w₂=>.ok (.tuple #[v,tmps.getD u undef,tmps.getD u' undef]) w₂:=by
 simp only[results,h];simp[Sem.run_bind,Result.andThen]
theorem Gi{w:World}{g:Nat}{k f n:Int}(hb:Bk w g 112 #[.int .i64 k,.int .i64 f,.int .i64 n]):(loadVar 112 ⟨g,0,none⟩).run prog w= .ok (.agg #[.int .i64 k,.int .i64 f,.int .i64 n]) w:=
 run_loadVar_row w g 112 112 _ (0,0) _ hb underlying112 rfl (by kernel_rfl)
theorem jF{fn:Func}{p u u':Tmp}(hr:fn.results= #[.cell p 112,.tmp u,.tmp u'])(tmps:Array Value){w:World}{g:Nat}{k f n:Int}(hp:tmps.getD p undef= .pointer (some ⟨g,0,none⟩))(hb:Bk w g 112 #[.int .i64 k,.int .i64 f,.int .i64 n]):
  (results fn tmps).run prog w= .ok (.tuple #[.agg #[.int .i64 k,.int .i64 f,.int .i64 n],tmps.getD u undef,tmps.getD u' undef]) w:=by
 rw[ml hr,hp];exact kG _ (⟨g,0,none⟩:Addr) w _ rfl |>.trans (kG _ _ w _ (Gi hb))
theorem Gw(b:UInt8):bits BinOp.and IntKind.u8 (b.toNat:Int) 15=((b.toNat% 16:Nat):Int):=by
 have h:=wa b 15;rw[show((15:UInt8).toNat:Int)=15 from rfl]at h;rw[h,UInt8.toNat_and,show(15:UInt8).toNat=2^ 4- 1 from rfl,kC]
theorem qy(v:Int)(s:ByteArray)(w:World)(hs:s.size<=4611686018427387904):Calls prog 88 #[.int .i64 v,.string s] w fun e w'=>e= .returned (.tuple #[Cx (hdR v s).1,.int .i64 ((hdR v s).2.1:Nat),.int .i64 (hdR v s).2.2])/\Below w.heap.size w w':=by
 have HE:Hid (hdR v s=if ba v=false then(lC,0,2)
  else if s.size=0 then(lC,0,3)
  else if ff v (cU s/ 16:Nat) (cU s% 16:Nat)≠0 then(lC,0,ff v (cU s/ 16:Nat) (cU s% 16:Nat))
  else if(bm (ls (s.extract 1 s.size))).2.2≠0 then(lC,0,(bm (ls (s.extract 1 s.size))).2.2)
  else(⟨(cU s/ 16:Nat),(cU s% 16:Nat),(bm (ls (s.extract 1 s.size))).1⟩,(bm (ls (s.extract 1 s.size))).2.1+1,0)):=aa rfl
 have HB:=aa ((aq w.heap.size w).alloc (ac _) (.cells #[.int .i64 0,.int .i64 0,.int .i64 0] 112));have HK:=aa (Bk.fresh w 112 #[.int .i64 0,.int .i64 0,.int .i64 0]);have HS:=aa hs;clear hs;go_enter func88,ntmps88
 go_wp2_with fail
 refine(j9 v _).mono ?_;rintro e w1 ⟨rfl,rfl⟩;cases hk:ba v
 ·have HX:Hid (hdR v s=(lC,0,2)):=aa (by rw[HE.o,if_pos hk]);clear hk;go_wp2;refine av (jF rfl _ rfl HK.o) rfl ?_;exact⟨by rw[HX.o];rfl,HB.o⟩
 by_cases h0:s.size=0
 ·have HX:Hid (hdR v s=(lC,0,3)):=aa (by rw[HE.o,ae (fun x=>by rw[hk]at x;cases x),if_pos h0]);have em:=kR s;rw[au h0]at em;clear hk h0;go_wp2;refine av (jF rfl _ rfl HK.o) rfl ?_;exact⟨by rw[HX.o];rfl,HB.o⟩
 have hpos0:0<s.size:=by omega
 obtain⟨b,hb⟩:∃b,s[0]'hpos0=b:=⟨_,rfl⟩;have HBY:Hid (cU s=b.toNat):=aa (by
  unfold cU;rw[List.headD_eq_head?_getD,List.head?_eq_getElem?,List.getElem?_eq_getElem (by rw[aN];omega),uY s 0 (by omega),hb];rfl)
 have HE1:Hid (hdR v s=if ff v (cU s/ 16:Nat) (cU s% 16:Nat)≠0 then(lC,0,ff v (cU s/ 16:Nat) (cU s% 16:Nat))
  else if(bm (ls (s.extract 1 s.size))).2.2≠0 then(lC,0,(bm (ls (s.extract 1 s.size))).2.2)
  else(⟨(cU s/ 16:Nat),(cU s% 16:Nat),(bm (ls (s.extract 1 s.size))).1⟩,(bm (ls (s.extract 1 s.size))).2.1+1,0)):=aa (by rw[HE.o,ae (fun x=>by rw[hk]at x;cases x),ae h0])
 have hpos:(0:Int)<(s.size:Int):=by omega
 have em:=kR s;rw[ah h0]at em;have hlo:=Gw b;have hb8:=b.toNat_lt;have HPOS:Hid (1<=s.size):=aa (by omega);clear hk HE h0
 go_wp2_with fail
 go_region
 have HX0:Hid (∃kn fn:Nat,b.toNat/ 16=kn/\b.toNat% 16=fn):=aa ⟨_,_,rfl,rfl⟩;obtain⟨kn,fn,hkn,hfn⟩:=HX0.o;rw[show((b.toNat:Int) / 16)=(kn:Int) by omega,show((b.toNat:Int) % 16)=(fn:Int) by omega];have HE2:Hid (hdR v s=if ff v kn fn≠0 then(lC,0,ff v kn fn)
  else if(bm (ls (s.extract 1 s.size))).2.2≠0 then(lC,0,(bm (ls (s.extract 1 s.size))).2.2)
  else(⟨kn,fn,(bm (ls (s.extract 1 s.size))).1⟩,(bm (ls (s.extract 1 s.size))).2.1+1,0)):=aa (by rw[HE1.o,HBY.o,hkn,hfn])
 have HB1:=aa (aV ((aq w.heap.size w).alloc (ac _) (.cells #[.int .i64 kn,.int .i64 fn,.int .i64 0] 112)) 1);have HK1:=aa ((Bk.fresh w 112 #[.int .i64 kn,.int .i64 fn,.int .i64 0]).drewN 1);have HCK:=aa (fun W=>vq v kn fn 0 W (by omega));simp only[Cx]at HCK;clear HX0 HE1 HBY hkn hfn hlo hb hb8 HK HB em;have c0:=HK1.o.cell 0;have c1:=HK1.o.cell 1;have c2:=HK1.o.cell 2
 simp only[ay,aE,aB]at c0 c1 c2
 go_wp2_with fail
 refine(HCK.o _).mono ?_;rintro e w1 ⟨rfl,hb⟩;have HB2:=aa (HB1.o.trans (hb.mono HB1.o.size));have HK2:=aa (HK1.o.below hb HK1.o.lt);clear hb c0 c1 c2 HCK HK1 HB1
 by_cases hc:ff v kn fn=0
 rotate_left
 ·have HX:Hid (hdR v s=(lC,0,ff v kn fn)):=aa (by rw[HE2.o,if_pos hc]);generalize ff v kn fn=x at*;have e0:(x !=0)=true:=aA.2 hc;clear hc HE2;have c0:=HK2.o.cell 0;have c1:=HK2.o.cell 1;have c2:=HK2.o.cell 2
  have f0:=HK2.o.free 0;have f1:=HK2.o.free 1;have f2:=HK2.o.free 2
  simp only[ay,aE,aB]at c0 c1 c2;go_wp2;refine av (jF rfl _ rfl (((HK2.o.put 0 (.int .i64 0)).put 1 (.int .i64 0)).put 2 (.int .i64 0))) rfl ?_;exact⟨by rw[HX.o];rfl,((HB2.o.setCell (ac _) _).setCell (ac _) _).setCell (ac _) _⟩
 rw[hc];have HE3:Hid (hdR v s=if(bm (ls (s.extract 1 s.size))).2.2≠0 then(lC,0,(bm (ls (s.extract 1 s.size))).2.2)
  else(⟨kn,fn,(bm (ls (s.extract 1 s.size))).1⟩,(bm (ls (s.extract 1 s.size))).2.1+1,0)):=aa (by rw[HE2.o,ae (fun x=>x hc)])
 clear hc HE2;have v1:(0:Int)<=1:=by decide
 have v2:(1:Int)<=(s.size:Int):=by have:=HPOS.o;omega
 have HRV:=aa (fun W=>nO (s.extract 1 s.size) W (by rw[aj];have:=HS.o;omega));have HLT:=aa (jH (ls (s.extract 1 s.size)));rw[aN,aj]at HLT
 go_wp2_with fail
 refine(HRV.o _).mono ?_;rintro e w2 ⟨rfl,hb⟩;have HB3:=aa (HB2.o.trans (hb.mono HB2.o.size));have HK3:=aa (HK2.o.below hb HK2.o.lt);clear hb HRV HK2 HB2;obtain⟨⟨rn,ra,re⟩,hr⟩:∃r,bm (ls (s.extract 1 s.size))=r:=⟨_,rfl⟩;rw[hr]at HE3 HLT⊢;dsimp only at HLT⊢;clear hr;have c0:=HK3.o.cell 0;have c1:=HK3.o.cell 1;have c2:=HK3.o.cell 2
 have f0:=HK3.o.free 0;have f1:=HK3.o.free 1;have f2:=HK3.o.free 2
 simp only[ay,aE,aB]at c0 c1 c2
 by_cases hz:re=0
 ·have HX:Hid (hdR v s=(⟨kn,fn,rn⟩,ra+1,0)):=aa (by rw[HE3.o,ae (fun x=>x hz)]);subst hz;have hra:(ra:Int)<9223372036854775806:=by have:=HLT.o;have:=HS.o;omega
  clear HE3;go_wp2;refine av (jF rfl _ rfl ((((HK3.o.put 2 (.int .i64 rn)).put 0 (.int .i64 kn)).put 1 (.int .i64 fn)).put 2 (.int .i64 rn))) rfl ?_;exact⟨by rw[HX.o];rfl,(((HB3.o.setCell (ac _) _).setCell (ac _) _).setCell (ac _) _).setCell (ac _) _⟩
 ·have HX:Hid (hdR v s=(lC,0,re)):=aa (by rw[HE3.o,if_pos hz]);have e0:(re !=0)=true:=aA.2 hz;clear HE3 hz;go_wp2;refine av (jF rfl _ rfl ((((HK3.o.put 2 (.int .i64 rn)).put 0 (.int .i64 0)).put 1 (.int .i64 0)).put 2 (.int .i64 0))) rfl ?_;exact⟨by rw[HX.o];rfl,(((HB3.o.setCell (ac _) _).setCell (ac _) _).setCell (ac _) _).setCell (ac _) _⟩
def fnB(f:FuncId):Value:=.func (.func f) #[.agg #[]] #[]
def mC:List (Int×Value):=[(12,fnB 333),(13,fnB 333),(14,fnB 334),(15,fnB 334)]
theorem oL(v:Int)(w:World):Calls prog 333 #[.agg #[],.int .i64 v] w fun e w'=>e= .returned (.bool false)/\Below w.heap.size w w':=by
 go_enter func333,ntmps333;go_wp2;go_ret;exact⟨rfl,(aq _ _).alloc (ac _) _⟩
theorem vi(v:Int)(w:World):Calls prog 334 #[.agg #[],.int .i64 v] w fun e w'=>e= .returned (.bool (v==5))/\Below w.heap.size w w':=by
 go_enter func334,ntmps334;go_wp2;go_ret;exact⟨rfl,(aq _ _).alloc (ac _) _⟩
theorem ro(args:Array Value)(w:World):(callFunc 333 args).run prog w= .ok (.enter 333 args) w:=dv func333 (by kernel_rfl) rfl args w
theorem xp(args:Array Value)(w:World):(callFunc 334 args).run prog w= .ok (.enter 334 args) w:=dv func334 (by kernel_rfl) rfl args w
theorem Co(k:Int):(k=12/\ia mC k=some (fnB 333))\/(k=13/\ia mC k=some (fnB 333))\/(k=14/\ia mC k=some (fnB 334))\/(k=15/\ia mC k=some (fnB 334))\/
  (¬(12<=k/\k<=15)/\ia mC k=none):=by
 by_cases h1:k=12
 ·subst h1;exact .inl ⟨rfl,rfl⟩
 by_cases h2:k=13
 ·subst h2;exact .inr (.inl ⟨rfl,rfl⟩)
 by_cases h3:k=14
 ·subst h3;exact .inr (.inr (.inl ⟨rfl,rfl⟩))
 by_cases h4:k=15
 ·subst h4;exact .inr (.inr (.inr (.inl ⟨rfl,rfl⟩)))
 refine .inr (.inr (.inr (.inr ⟨by omega,?_⟩)));have e1:((12:Int)==k)=false:=ar.2 (by omega);have e2:((13:Int)==k)=false:=ar.2 (by omega);have e3:((14:Int)==k)=false:=ar.2 (by omega);have e4:((15:Int)==k)=false:=ar.2 (by omega);simp[ia,mC,List.find?,e1,e2,e3,e4]
theorem pQ(v k:Int)(w:World):Calls prog 275 #[.int .i64 v,.int .i64 k] w fun e w'=>e= .returned (.tuple #[.bool (fO v k),.bool (qH k)])/\Below w.heap.size w w':=by
 have hmm:=@run_makeMap prog;have B0:=(aq w.heap.size w).alloc (ac _) (.cells #[] 264);have HT:=aa (fQ.made (w.alloc (.cells #[] 264)) .i64);have HB:=aa (B0.alloc B0.size (.map #[] 0));clear B0;rw[show(w.alloc (.cells #[] 264)).heap.size=w.heap.size+1 by simp]at HT;go_enter func275,ntmps275
 go_wp2_with (refine lc _ rfl _ _ _ 265 rfl 3 104 (by kernel_rfl) (by kernel_rfl) (w.heap.size+1) _ rfl HT.o _ _ rfl rfl rfl ?_;intro w1 hT hg;have hb:=HB.o.grown hg (HB.o.size) (fun k hk=>by cases hk;exact IT _);clear HT HB hg;have HT:=aa hT;have HB:=aa hb;clear hT hb)
 rename_i wm;have HT2:fQ .i64 _ (w.heap.size+1) mC:=HT.o;have hlk:=(nY (P:=prog) (t:=265) (k:=3) (e:=104) (z:=.nilFunc) (by kernel_rfl) (by kernel_rfl) (by kernel_rfl) HT2 k).2;have en:=ro;have el:=xp;clear HT2;rcases Co k with ⟨hk,h⟩ | ⟨hk,h⟩ | ⟨hk,h⟩ | ⟨hk,h⟩ | ⟨hk,h⟩
 ·subst hk;rw[h,kB,mh,fnB]at hlk;clear h
  go_wp2_with fail
  rw[hlk]
  go_wp2_with fail
  refine(oL v _).mono ?_;rintro e w2 ⟨rfl,hb⟩;have HB2:=aa (HB.o.trans (hb.mono HB.o.size));clear hb hlk
  go_wp2;go_ret2;exact⟨by rfl,HB2.o⟩
 ·subst hk;rw[h,kB,mh,fnB]at hlk;clear h
  go_wp2_with fail
  rw[hlk]
  go_wp2_with fail
  refine(oL v _).mono ?_;rintro e w2 ⟨rfl,hb⟩;have HB2:=aa (HB.o.trans (hb.mono HB.o.size));clear hb hlk
  go_wp2;go_ret2;exact⟨by rfl,HB2.o⟩
 ·subst hk;rw[h,kB,mh,fnB]at hlk;clear h
  go_wp2_with fail
  rw[hlk]
  go_wp2_with fail
  refine(vi v _).mono ?_;rintro e w2 ⟨rfl,hb⟩;have HB2:=aa (HB.o.trans (hb.mono HB.o.size));clear hb hlk
  go_wp2;go_ret2;exact⟨by unfold fO qH;by_cases h5:v=5<;>simp[h5],HB2.o⟩
 ·subst hk;rw[h,kB,mh,fnB]at hlk;clear h
  go_wp2_with fail
  rw[hlk]
  go_wp2_with fail
  refine(vi v _).mono ?_;rintro e w2 ⟨rfl,hb⟩;have HB2:=aa (HB.o.trans (hb.mono HB.o.size));clear hb hlk
  go_wp2;go_ret2;exact⟨by unfold fO qH;by_cases h5:v=5<;>simp[h5],HB2.o⟩
 ·have h1:qH k=false:=ah hk;have h2:fO v k=false:=ah (fun x=>hk (by omega));rw[h,Option.getD_none,Option.isSome_none]at hlk;clear h hk
  go_wp2_with fail
  rw[hlk];go_wp2;go_ret2;exact⟨by rw[h1,h2];rfl,HB.o⟩
theorem nk(v k:Int)(w:World):Calls prog 274 #[.int .i64 v,.int .i64 k] w fun e w'=>e= .returned (.int .i64 (jR v k))/\Below w.heap.size w w':=by
 go_enter func274,ntmps274
 go_wp2_with fail
 refine(pQ v k _).mono ?_;rintro e w1 ⟨rfl,hb⟩;have HB:=aa hb;clear hb
 have HE:Hid (jR v k=if qH k=false\/¬(v=4\/v=5)then 2 else if k=15/\v=4 then 8 else 0):=aa rfl;cases hi:qH k
 ·have HX:Hid (jR v k=2):=aa (by rw[HE.o,if_pos (.inl hi)]);clear hi;go_wp2;go_ret;exact⟨by rw[HX.o];rfl,HB.o⟩
 ·by_cases h4:v=4
  ·have e4:(v !=4)=false:=by simpa using h4
   have e4':(v==4)=true:=aK.2 h4
   by_cases h15:k=15
   ·have HX:Hid (jR v k=8):=aa (by rw[HE.o,ae (fun x=>x.elim (fun y=>by rw[hi]at y;cases y) (fun y=>y (.inl h4))),if_pos ⟨h15,h4⟩]);have e15:(k==15)=true:=aK.2 h15;clear h4 h15 hi;go_wp2;go_ret;exact⟨by rw[HX.o];rfl,HB.o⟩
   ·have HX:Hid (jR v k=0):=aa (by rw[HE.o,ae (fun x=>x.elim (fun y=>by rw[hi]at y;cases y) (fun y=>y (.inl h4))),ae (fun x=>h15 x.1)]);have e15:(k==15)=false:=ar.2 h15;clear h4 h15 hi;go_wp2;go_ret;exact⟨by rw[HX.o];rfl,HB.o⟩
  ·have e4:(v !=4)=true:=aA.2 h4;have e4':(v==4)=false:=ar.2 h4
   by_cases h5:v=5
   ·have e5:(v !=5)=false:=by simpa using h5
    have HX:Hid (jR v k=0):=aa (by rw[HE.o,ae (fun x=>x.elim (fun y=>by rw[hi]at y;cases y) (fun y=>y (.inr h5))),ae (fun x=>h4 x.2)]);clear h4 h5 hi
    by_cases h15:k=15
    ·have e15:(k==15)=true:=aK.2 h15;clear h15;go_wp2;go_ret;exact⟨by rw[HX.o];rfl,HB.o⟩
    ·have e15:(k==15)=false:=ar.2 h15;clear h15;go_wp2;go_ret;exact⟨by rw[HX.o];rfl,HB.o⟩
   ·have e5:(v !=5)=true:=aA.2 h5;have HX:Hid (jR v k=2):=aa (by rw[HE.o,if_pos (.inr (fun x=>x.elim h4 h5))]);clear h4 h5 hi;go_wp2;go_ret;exact⟨by rw[HX.o];rfl,HB.o⟩
theorem Vw(code k:Int)(l:List Pr)(n:Nat)(hn:l.length=n)(hok:∀p∈l,ea p)(A:Option Addr)(c:Nat)(w:World)(h:Rd w w.heap.size 4 A n (prs l))(hl:n<=4611686018427387904):
  Calls prog 273 #[.int .i64 code,.slice A n c,.int .i64 k] w fun e w'=>e= .returned (.string ⟨(xV code l k).toArray⟩)/\Below w.heap.size w w':=by
 subst hn;have HE:Hid (xV code l k=if code<0\/255<code\/(aM k l).2≠0 then []else oG k code l):=aa rfl;go_enter func273,ntmps273
 go_wp2_with fail
 refine(UB k l _ rfl hok A c _ h hl).mono ?_;rintro e w1 ⟨rfl,hb⟩;have HB:=aa hb;clear hb h hok
 by_cases h1:code<0
 ·have HX:Hid (xV code l k=[]):=aa (by rw[HE.o,if_pos (.inl h1)]);go_wp2;go_ret;exact⟨by rw[HX.o];rfl,HB.o⟩
 have d1:decide (code<0)=false:=ah h1;have d1':0<=code:=by omega
 by_cases h2:255<code
 ·have HX:Hid (xV code l k=[]):=aa (by rw[HE.o,if_pos (.inr (.inl h2))]);clear h1;go_wp2;go_ret;exact⟨by rw[HX.o];rfl,HB.o⟩
 have d2:decide (255<code)=false:=ah h2;have d2':code<=255:=by omega
 by_cases h3:(aM k l).2=0
 rotate_left
 ·have HX:Hid (xV code l k=[]):=aa (by rw[HE.o,if_pos (.inr (.inr h3))]);have e3:((aM k l).2 !=0)=true:=aA.2 h3;clear h1 h2 h3;go_wp2;go_ret;exact⟨by rw[HX.o];rfl,HB.o⟩
 have HX:Hid (xV code l k=oG k code l):=aa (by rw[HE.o,ae (fun x=>x.elim h1 (fun y=>y.elim h2 (fun z=>z h3)))]);have HSZ:=aa (G6 k l h3).2;rw[h3];obtain⟨m,hm,hw⟩:∃m:Nat,Hid (code.toNat=m)/\IntKind.u64.wrap code=(m:Int):=⟨_,aa rfl,by rw[iZ];omega⟩;have HM:Hid (m<256):=aa (by have:=hm.out;omega);clear h1 h2 h3
 go_wp2_with fail
 refine(pD m 1 _ (by have:=HM.o;omega) (by omega) (by omega)).mono ?_;rintro e w2 ⟨rfl,hb⟩;have HB2:=aa (HB.o.trans (hb.mono HB.o.size));clear hb
 by_cases hz:l.length=0
 ·have z1:(l.length:Int)<=0:=by omega
  by_cases hc:code=0
  ·have HY:Hid (xV code l k=[]):=aa (by rw[HX.o,oG,if_pos ⟨hc,hz⟩]);have z2:code<=0:=by omega
   clear hz hc d1' d1;go_wp2;go_ret;exact⟨by rw[HY.o];rfl,HB2.o⟩
  ·have HY:Hid (xV code l k=da m 1):=aa (by rw[HX.o,oG,ae (fun x=>hc x.1),if_pos hz,cW,hm.out]);have z2:0<code:=by omega
   clear hz hc d1' d1;go_wp2;go_ret;exact⟨by rw[HY.o];rfl,HB2.o⟩
 ·have z1:0<(l.length:Int):=by omega
  have HY:Hid (xV code l k=da m 1++(aM k l).1):=aa (by rw[HX.o,oG,ae (fun x=>hz x.2),ae hz,hm.out]);have hs1:¬(9223372036854775807<(da m 1).length+(aM k l).fst.length):=by rw[fM];have:=HSZ.o;omega
  clear hz;go_wp2;go_ret;exact⟨by rw[HY.o,<-ap2];rfl,HB2.o⟩
def tL(r:Int×List Pr×Int)(w:World)(e:Ending)(w':World):Prop:=∃A c,e= .returned (.tuple #[.int .i64 r.1,.slice A r.2.1.length c,.int .i64 r.2.2])/\r.2.1.length<=c/\Rd w' w'.heap.size 4 A r.2.1.length (prs r.2.1)/\Below w.heap.size w w'
theorem iP{r:Int×List Pr×Int}{x y:Int}{w w':World}(h:r=(x,[],y))(hb:Below w.heap.size w w'):tL r w (.returned (.tuple #[.int .i64 x,.slice none 0 0,.int .i64 y])) w':=by
 subst h;exact⟨none,0,rfl,ac _,Rd.nil _ _ _ _,hb⟩
theorem wg{r:Int×List Pr×Int}{x:Int}{l:List Pr}{A:Option Addr}{c:Nat}{w w':World}(h:r=(x,l,0))(hc:l.length<=c)(hr:Rd w' w'.heap.size 4 A l.length (prs l))(hb:Below w.heap.size w w'):tL r w (.returned (.tuple #[.int .i64 x,.slice A l.length c,.int .i64 0])) w':=by
 subst h;exact⟨A,c,rfl,hc,hr,hb⟩
theorem FA(t:ByteArray)(a:Nat)(h:a<t.size):br t a 0 1=t[a].toNat:=by
 have h1:=sc (t:=t) (a:=a) (k:=1) (x:=[t[a]]) (rest:=(ls t).drop (a+1)) (by
  rw[bQ (show a<(ls t).length by rw[aN];exact h),uY t a h];rfl) rfl (by omega)
 rw[show((1:Int))=((1:Nat):Int)from rfl,h1];simp[es]
theorem sr(s:ByteArray):s.toList.isEmpty=decide (s.size=0):=by
 cases hz:s.toList.isEmpty
 ·exact(ah (fun x=>by
   have:s=⟨#[]⟩:=eX (by rw[show ls (⟨#[]⟩:ByteArray)=[]from rfl];exact aF (by rw[aN];exact x));rw[this]at hz;exact absurd hz (by decide+kernel))).symm
 ·exact(au (mL hz)).symm
theorem AQ(k:Int)(s:ByteArray)(w:World)(hs:s.size<=140737488351232):
  Calls prog 276 #[.int .i64 k,.string s] w (tL (iO k s) w):=by
 have HE:Hid (iO k s=if pK k s≠0 then(0,[],pK k s)else((dg k s 0).1,(dg k s 0).2.1,0)):=aa rfl;have HT:Hid (pK k s=if(dg k s 0).2.2.2≠0 then(dg k s 0).2.2.2 else if(dg k s 0).2.2.1<s.size then 5 else 0):=aa rfl;have hem:=sr s
 by_cases h0:s.size=0
 ·have hr:dg k s 0=(0,[],0,0):=by unfold dg;rw[if_pos (by omega)]
  have HX:Hid (iO k s=(0,[],0)):=aa (by rw[HE.o,HT.o,hr];simp[h0]);rw[au h0]at hem;clear h0 hr hs;go_enter func276,ntmps276;go_wp2;go_ret3;exact iP HX.o (aq _ _)
 rw[ah h0]at hem;have i1:(0:Int)<(s.size:Int):=by omega
 have h00:0<s.size:=by omega
 have HN:=aa (FA s 0 h00);obtain⟨d,hd⟩:∃d:UInt8,s[0]'h00=d:=⟨_,rfl⟩;rw[hd]at HN;have hb0:IntKind.i64.wrap (d.toNat:Int)=(d.toNat:Int):=by rw[aQ];have:=d.toNat_lt;omega
 by_cases h1:s.size=1
 ·have hr:dg k s 0=(((d.toNat:Nat):Int),[],1,if d.toNat=0 then 5 else 0):=by unfold dg;rw[ae (by omega),if_pos (by omega),HN.o]
  have z1:((s.size:Int)==1)=true:=aK.2 (by omega)
  by_cases hq:d.toNat=0
  ·have HX:Hid (iO k s=(0,[],5)):=aa (by rw[HE.o,HT.o,hr];simp[hq]);have z2:((d.toNat:Int)==0)=true:=aK.2 (by omega);clear h0 hr hs h1 hq HN;go_enter func276,ntmps276;go_wp2;go_ret3;exact iP HX.o (aq _ _)
  ·have HX:Hid (iO k s=((d.toNat:Int),[],0)):=aa (by rw[HE.o,HT.o,hr];simp[hq,h1]);have z2:((d.toNat:Int)==0)=false:=ar.2 (by omega);clear h0 hr hs h1 hq HN;go_enter func276,ntmps276;go_wp2;go_ret3;exact iP HX.o (aq _ _)
 ·have hr:dg k s 0=(((d.toNat:Nat):Int),(aZ k (s.extract 1 s.size)).1,1+(aZ k (s.extract 1 s.size)).2.1,
   if(aZ k (s.extract 1 s.size)).2.2≠0 then(aZ k (s.extract 1 s.size)).2.2 else if(aZ k (s.extract 1 s.size)).1.length=0 then 5 else 0):=by unfold dg;rw[ae (by omega),ae (by omega),HN.o,bV]
  have z1:((s.size:Int)==1)=false:=ar.2 (by omega);have i2:(1:Int)<=(s.size:Int):=by omega
  have HZ:Hid ((s.extract 1 s.size).size<=140737488351232):=aa (by rw[lk];omega);have HRR:=aa hr;have HS:=aa hs;have HLB:Hid ((aZ k (s.extract 1 s.size)).2.2=0->(aZ k (s.extract 1 s.size)).2.1<=(s.extract 1 s.size).size):=aa fun h0=>
   (fd (kind:=k) (s:=s.extract 1 s.size) (l:=(aZ k (s.extract 1 s.size)).1) (n:=(aZ k (s.extract 1 s.size)).2.1) (by rw[<-h0])).2.2
  clear h0 hr hs h1 HN;go_enter func276,ntmps276
  go_wp2_with fail
  refine(kl k (s.extract 1 s.size) _ HZ.o).mono ?_;rintro e w1 ⟨A,c,rfl,hcap,hrd,hb⟩;have HB:=aa hb;have HCAP:=aa hcap;have HRD:=aa hrd
  clear hb hcap hrd;generalize aZ k (s.extract 1 s.size)=R at*;obtain⟨l,n,x⟩:=R;simp only at HRR HCAP HRD HLB⊢
  by_cases hx:x=0
  ·subst hx;have hn1:=HLB.o rfl;have hwn:IntKind.i64.wrap (1+(n:Int))=1+(n:Int):=by rw[aQ];have:=HZ.o;omega
   by_cases hl:l.length=0
   ·have z2:((l.length:Int)==0)=true:=aK.2 (by omega);have HX:Hid (iO k s=(0,[],5)):=aa (by rw[HE.o,HT.o,HRR.o];simp[hl]);clear hl;go_wp2;go_ret3;exact iP HX.o HB.o
   ·have z2:((l.length:Int)==0)=false:=ar.2 (by omega)
    by_cases hlt:1+n<s.size
    ·have HX:Hid (iO k s=(0,[],5)):=aa (by rw[HE.o,HT.o,HRR.o];simp[hl,hlt]);have d3:1+(n:Int)<(s.size:Int):=by omega
     clear hl hlt;go_wp2;go_ret3;exact iP HX.o HB.o
    ·have HX:Hid (iO k s=((d.toNat:Int),l,0)):=aa (by rw[HE.o,HT.o,HRR.o];simp[hl,hlt]);have d3:(s.size:Int)<=1+(n:Int):=by omega
     clear hl hlt;go_wp2;go_ret3;exact wg HX.o HCAP.o HRD.o HB.o
  ·have e0:(x !=0)=true:=aA.2 hx;have HX:Hid (iO k s=(0,[],x)):=aa (by rw[HE.o,HT.o,HRR.o];simp[hx]);clear hx;go_wp2;go_ret3;exact iP HX.o HB.o
section
attribute [local go_sem ↓] bD bF bH bI bu
attribute [local go_sem] bc aD bh bg bK bJ bd aY be aO ax cI dC dB dt dj di dA dr dp dn bW co bO bZ bX cz cy cw cu ct cC cn bS bP bR
theorem yP(k:Int):({pk0 with kind:=k}:Pk)=aP k 0 0 []:=rfl
theorem EP{w:World}{B:Nat}{p:Pk}{h:Hs}(x:PkIn w B p h):PkIn w B (aP p.kind 0 p.code p.props) (vU h):=⟨Rd.nil _ _ _ _,Rd.nil _ _ _ _,Rd.nil _ _ _ _,x.props,ag _,ag _,ag _,x.caps.2.2.2⟩
theorem Df{p:Pk}(x:gz p):gz (aP p.kind 0 p.code p.props):=⟨ag _,ag _,ag _,x.2.2.2⟩
theorem vH{w:World}{g:Nat}{k c:Int}{l:List Pr}{A:Option Addr}{n:Nat}(h:Bk w g PkT (pkC (aP k 0 0 []) hs0)):Bk ((w.setCell ⟨g,21,none⟩ (.int .i64 c)).setCell ⟨g,24,none⟩ (.slice A l.length n)) g PkT (pkC (aP k 0 c l) {hs0 with props:=⟨A,n⟩}):=
 (h.upd 21 _ (td k 0 0 c [] hs0)).upd 24 _ (uT k 0 c [] l A n hs0)
theorem St.conQ{w x:World}{g0 g:Nat}{p:Pk}{h:Hs}(s:St w [(g0,p,h),(g,aP p.kind 0 0 [],hs0)] x)(ip:PkIn w w.heap.size p h)(hne:g0≠g):
  St w [(g0,p,h),(g,aP p.kind 0 p.code p.props,vU h)] ((x.setCell ⟨g,21,none⟩ (.int .i64 p.code)).setCell ⟨g,24,none⟩ (.slice h.props.a p.props.length h.props.c)):=by
 have hg:=(s.pks 1 g _ _ rfl).1;have hm:=(cP x g 21 (.int .i64 p.code)).trans (cP _ g 24 (.slice h.props.a p.props.length h.props.c));have hk:Below w.heap.size w ((x.setCell ⟨g,21,none⟩ (.int .i64 p.code)).setCell ⟨g,24,none⟩ (.slice h.props.a p.props.length h.props.c)):=dw s.kept hm s.kept.size hg;refine⟨hk,fun i g' q k e=>?_⟩;rcases i with _| _| i
 ·simp only[aB,aX,bG]at e;obtain⟨rfl,rfl,rfl⟩:=e;exact⟨(s.pks 0 g0 p h rfl).1,((s.bk 0 rfl).other hne _).other hne _,(ip.below hk).wider hk.size⟩
 ·simp only[aE,aB,aX,bG]at e;obtain⟨rfl,rfl,rfl⟩:=e;exact⟨hg,vH (s.bk 1 rfl),EP ((ip.below hk).wider hk.size)⟩
 ·simp at e
theorem nj(v:Int)(p:Pk)(h:Hs)(w:World)(ip:PkIn w w.heap.size p h)(ok:PkOk p):
  Calls prog 272 #[.int .i64 v,pkV p h] w fun e w'=>e= .returned (.int .i64 (fH v p))/\Below w.heap.size w w':=by
 have OK:=aa ok;have IP:=aa ip;have S0:=aa ((St.start w).push ip);have HE:Hid (fH v p=if jR v p.kind≠0 then jR v p.kind else if fO v p.kind=true/\may p.kind p.code=false then 2 else if p≠conQ v p then 2 else(aM p.kind p.props).2):=aa rfl;clear ip ok;go_enter func272,ntmps272
 go_wp2_with fail
 refine(nk v p.kind _).mono ?_;rintro e w1 ⟨rfl,hb⟩;have S1:=aa (S0.o.below hb);clear hb
 by_cases hk:jR v p.kind=0
 rotate_left
 ·have HX:Hid (fH v p=jR v p.kind):=aa (by rw[HE.o,if_pos hk]);have e0:(jR v p.kind !=0)=true:=aA.2 hk;clear hk;go_wp2;go_ret;exact⟨by rw[HX.o];rfl,S1.o.kept⟩
 have HE1:Hid (fH v p=if fO v p.kind=true/\may p.kind p.code=false then 2 else if p≠conQ v p then 2 else(aM p.kind p.props).2):=aa (by rw[HE.o,ae (fun x=>x hk)]);rw[hk];clear hk;have k1:=S1.o.cell 0 rfl 0;rw[cI]at k1;have S2:Hid (St w [(w.heap.size,p,h),(w1.heap.size,aP p.kind 0 0 [],hs0)] (w1.alloc (.cells (pkC (aP p.kind 0 0 []) hs0) PkT))):=aa (S1.o.push (PkIn.R1 (Rd.nil _ _ _ _) (ag _) _ _ _));have k2:(w1.alloc (.cells (pkC {pk0 with kind:=p.kind} hs0) PkT)).cell? ⟨w.heap.size,0,none⟩=some (.int .i64 p.kind):=(S2.o.cell 0 rfl 0).trans (cI _ _)
 go_wp2_with fail
 rw[yP];refine(pQ v p.kind _).mono ?_;rintro e w2 ⟨rfl,hb⟩;have S3:=aa (S2.o.below hb);clear hb k1 k2
 cases hm:fO v p.kind
 ·have HQ:Hid (conQ v p=aP p.kind 0 0 []):=aa (by unfold conQ;rw[ae (by rw[hm];decide)]);have HE2:Hid (fH v p=if p≠aP p.kind 0 0 []then 2 else(aM p.kind p.props).2):=aa (by rw[HE1.o,ae (fun x=>by rw[hm]at x;cases x.1),HQ.o]);have hl0:=S3.o.ld 0 rfl;have hl1:=S3.o.ld 1 rfl;clear hm
  go_wp2_with fail
  refine(jE p (aP p.kind 0 0 []) h hs0 _ (S3.o.into 0 rfl) (S3.o.into 1 rfl) OK.o.len ⟨ag _,ag _,ag _,ag _⟩).mono ?_;rintro e w3 ⟨rfl,hb⟩;have S4:=aa (S3.o.below hb);clear hb hl0 hl1
  by_cases hs:p=aP p.kind 0 0 []
  ·rw[au hs];have HX:Hid (fH v p=(aM p.kind p.props).2):=aa (by rw[HE2.o,ae (fun x=>x hs)]);have k4:=S4.o.cell 0 rfl 0;rw[cI]at k4;have k5:=S4.o.cell 0 rfl 24;rw[bR]at k5;clear hs
   go_wp2_with fail
   refine(gu p.kind p.props _ rfl OK.o.props h.props.a h.props.c _ (S4.o.into 0 rfl).props OK.o.len.2.2.2).mono ?_;rintro e w4 ⟨rfl,hb⟩;have S5:=aa (S4.o.below hb);clear hb k4 k5
   go_wp2;go_ret;exact⟨by rw[HX.o];rfl,S5.o.kept⟩
  ·rw[ah hs];have HX:Hid (fH v p=2):=aa (by rw[HE2.o,if_pos hs]);clear hs;go_wp2;go_ret;exact⟨by rw[HX.o];rfl,S4.o.kept⟩
 ·have HQ:Hid (conQ v p=aP p.kind 0 p.code p.props):=aa (by unfold conQ;rw[if_pos hm]);have HE2:Hid (fH v p=if may p.kind p.code=false then 2 else if p≠aP p.kind 0 p.code p.props then 2 else(aM p.kind p.props).2):=aa (by rw[HE1.o,HQ.o,hm];simp);have k3:=S3.o.cell 0 rfl 0;rw[cI]at k3;have k4:=S3.o.cell 0 rfl 21;rw[cn]at k4;clear hm
  go_wp2_with fail
  refine(m7 p.kind p.code _).mono ?_;rintro e w3 ⟨rfl,hb⟩;have S4:=aa (S3.o.below hb);clear hb k3 k4
  cases hy:may p.kind p.code
  ·have HX:Hid (fH v p=2):=aa (by rw[HE2.o,if_pos hy]);clear hy;go_wp2;go_ret;exact⟨by rw[HX.o];rfl,S4.o.kept⟩
  have HE3:Hid (fH v p=if p≠aP p.kind 0 p.code p.props then 2 else(aM p.kind p.props).2):=aa (by rw[HE2.o,ae (by rw[hy];decide)]);have k4:=S4.o.cell 0 rfl 21;rw[cn]at k4;have k5:=S4.o.cell 0 rfl 24;rw[bR]at k5;have j4:w3.cell? ⟨w1.heap.size,21,none⟩=some (.int .i64 0):=S4.o.cell 1 rfl 21;have j5:w3.cell? ⟨w1.heap.size,24,none⟩=some (.slice none 0 0):=S4.o.cell 1 rfl 24;have f4:=(S4.o.bk 1 rfl).free 21;have f5:=(S4.o.bk 1 rfl).free 24;have hne:(w.heap.size==w1.heap.size)=false:=ar.2 (by have:=S1.o.kept.size;have:=(S1.o.bk 0 rfl).lt;omega);clear hy
  go_wp2_with fail
  go_region
  have S5:=aa ((S4.o.conQ IP.o (by simpa using hne)).drew);have hl0:=S5.o.ld 0 rfl;have hl1:=S5.o.ld 1 rfl;clear k4 k5 j4 j5 f4 f5 hne;generalize ((w3.setCell ⟨w1.heap.size,21,none⟩ (.int .i64 p.code)).setCell ⟨w1.heap.size,24,none⟩ (.slice h.props.a p.props.length h.props.c)).drew=w5 at*
  go_wp2_with fail
  refine(jE p (aP p.kind 0 p.code p.props) h (vU h) _ (S5.o.into 0 rfl) (S5.o.into 1 rfl) OK.o.len (Df OK.o.len)).mono ?_;rintro e w6 ⟨rfl,hb⟩;have S6:=aa (S5.o.below hb);clear hb hl0 hl1
  by_cases hs:p=aP p.kind 0 p.code p.props
  ·rw[au hs];have HX:Hid (fH v p=(aM p.kind p.props).2):=aa (by rw[HE3.o,ae (fun x=>x hs)]);have k6:=S6.o.cell 0 rfl 0;rw[cI]at k6;have k7:=S6.o.cell 0 rfl 24;rw[bR]at k7;clear hs
   go_wp2_with fail
   refine(gu p.kind p.props _ rfl OK.o.props h.props.a h.props.c _ (S6.o.into 0 rfl).props OK.o.len.2.2.2).mono ?_;rintro e w7 ⟨rfl,hb⟩;have S7:=aa (S6.o.below hb);clear hb k6 k7
   go_wp2;go_ret;exact⟨by rw[HX.o];rfl,S7.o.kept⟩
  ·rw[ah hs];have HX:Hid (fH v p=2):=aa (by rw[HE3.o,if_pos hs]);clear hs;go_wp2;go_ret;exact⟨by rw[HX.o];rfl,S6.o.kept⟩
end
section
attribute [local go_sem ↓] bD bF bH bI bu
attribute [local go_sem] bc aD bh bg bK bJ bd aY be aO ax cI dC dB dt dj di dA dr dp dn bW co bO bZ bX cz cy cw cu ct cC cn bS bP bR
theorem Vk(v:Int)(p:Pk)(h:Hs)(w:World)(ip:PkIn w w.heap.size p h)(ok:PkOk p):
  Calls prog 197 #[.int .i64 v,pkV p h] w fun e w'=>e= .returned (.tuple #[.string ⟨(FY v p).1.toArray⟩,.int .i64 (FY v p).2])/\Below w.heap.size w w':=by
 have OK:=aa ok;have S0:=aa ((St.start w).push ip);have HE:Hid (FY v p=if fH v p=0 then(xV p.code p.props p.kind,0)else([],fH v p)):=aa rfl;clear ip ok;go_enter func197,ntmps197
 go_wp2_with fail
 refine(nj v p h _ (S0.o.into 0 rfl) OK.o).mono ?_;rintro e w1 ⟨rfl,hb⟩;have S1:=aa (S0.o.below hb);clear hb
 by_cases he:fH v p=0
 ·have HX:Hid (FY v p=(xV p.code p.props p.kind,0)):=aa (by rw[HE.o,if_pos he]);rw[he];have k0:=S1.o.cell 0 rfl 0;rw[cI]at k0;have k1:=S1.o.cell 0 rfl 21;rw[cn]at k1;have k2:=S1.o.cell 0 rfl 24;rw[bR]at k2;clear he
  go_wp2_with fail
  refine(Vw p.code p.kind p.props _ rfl OK.o.props h.props.a h.props.c _ (S1.o.into 0 rfl).props OK.o.len.2.2.2).mono ?_;rintro e w2 ⟨rfl,hb⟩;have S2:=aa (S1.o.below hb);clear hb
  go_wp2;go_ret2;exact⟨by rw[HX.o];rfl,S2.o.kept⟩
 ·have e0:(fH v p !=0)=true:=aA.2 he;have HX:Hid (FY v p=([],fH v p)):=aa (by rw[HE.o,ae he]);clear he;go_wp2;go_ret2;exact⟨by rw[HX.o];rfl,S1.o.kept⟩
structure RC (w:World) (g gp:Nat) (k c:Int) (l:List Pr) (A:Option Addr) (n:Nat) (x:World):Prop where
 kept:Below w.heap.size w x
 res:Bk x g PkT (pkC pk0 hs0)
 pk:Bk x gp PkT (pkC (aP k 0 c l) {hs0 with props:=⟨A,n⟩})
 rd:Rd x x.heap.size 4 A l.length (prs l)
 cap:l.length<=n
 ne:g≠gp
 base:w.heap.size<=g/\w.heap.size<=gp
section
variable {w x y:World} {g gp:Nat} {k c:Int} {l:List Pr} {A:Option Addr} {n:Nat}
theorem RC.below(h:RC w g gp k c l A n x)(hb:Below x.heap.size x y):RC w g gp k c l A n y:=
 ⟨h.kept.trans (hb.mono h.kept.size),h.res.below hb h.res.lt,h.pk.below hb h.pk.lt,(h.rd.below hb).wider hb.size,h.cap,h.ne,h.base⟩
theorem RC.into(h:RC w g gp k c l A n x):PkIn x x.heap.size (aP k 0 c l) {hs0 with props:=⟨A,n⟩}:=PkIn.R1 h.rd h.cap k 0 c
theorem RC.none(h:RC w g gp k c l A n x):Below w.heap.size w (dE x g pk0 hs0)/\Bk (dE x g pk0 hs0) g PkT (pkC pk0 hs0):=⟨bT h.kept h.kept.size h.base.1 _ _,cO h.res _ _⟩
theorem RC.some(h:RC w g gp k c l A n x):Below w.heap.size w (dE x g (aP k 0 c l) {hs0 with props:=⟨A,n⟩})/\Bk (dE x g (aP k 0 c l) {hs0 with props:=⟨A,n⟩}) g PkT (pkC (aP k 0 c l) {hs0 with props:=⟨A,n⟩})/\
  PkIn (dE x g (aP k 0 c l) {hs0 with props:=⟨A,n⟩}) (dE x g (aP k 0 c l) {hs0 with props:=⟨A,n⟩}).heap.size (aP k 0 c l) {hs0 with props:=⟨A,n⟩}:=
 ⟨bT h.kept h.kept.size h.base.1 _ _,cO h.res _ _,PkIn.R1 ((h.rd.other h.res (dY _ _) (cJ _ _ _ _) (ac _)).wider (cJ _ _ _ _).size) h.cap k 0 c⟩
theorem RC.put(h:RC w g gp k 0 [] Option.none 0 x){A':Option Addr}{n':Nat}{l':List Pr}{c':Int}(hr:Rd x x.heap.size 4 A' l'.length (prs l'))(hn:l'.length<=n'):
  RC w g gp k c' l' A' n' ((x.setCell ⟨gp,21,.none⟩ (.int .i64 c')).setCell ⟨gp,24,.none⟩ (.slice A' l'.length n')):=by
 have hm:=(cP x gp 21 (.int .i64 c')).trans (cP _ gp 24 (.slice A' l'.length n'));exact⟨dw h.kept hm h.kept.size h.base.2,(h.res.other h.ne _).other h.ne _,vH h.pk,(hr.other h.pk (dY _ _) hm (ac _)).wider hm.size,hn,h.ne,h.base⟩
end
theorem Ao{v k:Int}{s:ByteArray}(hk:jR v k=0):
  ((if(fA v k s).2.2=0 then fH v (fN v k s)else(fA v k s).2.2)=0/\gX v k s=(fN v k s,0))\/((if(fA v k s).2.2=0 then fH v (fN v k s)else(fA v k s).2.2)≠0/\gX v k s=(pk0,(if(fA v k s).2.2=0 then fH v (fN v k s)else(fA v k s).2.2))):=by
 have e1:gX v k s=if(fA v k s).2.2≠0 then(pk0,(fA v k s).2.2)else if fH v (fN v k s)≠0 then(pk0,fH v (fN v k s))else(fN v k s,0):=by
  unfold gX;rw[ae (fun x=>x hk)]
 rw[e1]
 by_cases h3:(fA v k s).2.2=0
 ·rw[if_pos h3,ae (fun x=>x h3)]
  by_cases h4:fH v (fN v k s)=0
  ·rw[ae (fun x=>x h4)];exact .inl ⟨h4,rfl⟩
  ·rw[if_pos h4];exact .inr ⟨h4,rfl⟩
 ·rw[ae h3,if_pos h3];exact .inr ⟨h3,rfl⟩
theorem vG(v k:Int)(s:ByteArray)(w:World)(hs:s.size<=140737488351232):
  Calls prog 198 #[.int .i64 v,.int .i64 k,.string s] w (mu (gX v k s) w):=by
 have HS:=aa hs;have HB0:=aa ((aq w.heap.size w).alloc (ac _) (.cells (pkC pk0 hs0) PkT));have H60:=aa (Bk.fresh w PkT (pkC pk0 hs0));go_enter func198,ntmps198
 go_wp2_with fail
 refine(nk v k _).mono ?_;rintro e w1 ⟨rfl,hb⟩;have HB1:=aa (HB0.o.trans (hb.mono HB0.o.size));have H61:=aa (H60.o.below hb H60.o.lt);clear hb
 by_cases hk:jR v k=0
 rotate_left
 ·have HX:Hid (gX v k s=(pk0,jR v k)):=aa (by unfold gX;rw[if_pos hk]);have e0:(jR v k !=0)=true:=aA.2 hk;have hst:=aW H61.o;generalize jR v k=E at*;clear hk;go_wp2;refine av (aI rfl _ rfl (cO H61.o pk0 hs0)) rfl ?_;exact cL HX.o (bT HB1.o HB1.o.size (ac _) _ _)
 have HW0:=aa (Ao (s:=s) hk);rw[hk];clear hk;have I1:Hid (RC w w.heap.size w1.heap.size k 0 [] none 0 (w1.alloc (.cells (pkC (aP k 0 0 []) hs0) PkT))):=aa
  ⟨HB1.o.alloc HB1.o.size _,H61.o.alloc _,Bk.fresh _ _ _,Rd.nil _ _ _ _,ac _,by have:=H61.o.lt;omega,ac _,HB1.o.size⟩
 go_wp2_with fail
 rw[yP];refine(pQ v k _).mono ?_;rintro e w2 ⟨rfl,hb⟩;have I2:=aa (I1.o.below hb);clear hb
 cases hm:fO v k
 ·have hem:=sr s;have ht:fA v k s=(0,[],if s.size≠0 then 5 else 0):=by unfold fA;rw[ae (by rw[hm];decide)]
  have hp:fN v k s=aP k 0 0 []:=by unfold fN;rw[ht]
  by_cases hz:s.size=0
  ·rw[au hz]at hem;have HW:Hid ((fH v (aP k 0 0 [])=0/\gX v k s=(aP k 0 0 [],0))\/(fH v (aP k 0 0 [])≠0/\gX v k s=(pk0,fH v (aP k 0 0 [])))):=aa (by simpa [ht,hp,hz]using HW0.o);have hl:=cf I2.o.pk;clear hm hz ht hp
   go_wp2_with fail
   refine(nj v (aP k 0 0 []) _ _ I2.o.into (iw (by simp) (by simp))).mono ?_;rintro e w3 ⟨rfl,hb⟩;have IG:=aa (I2.o.below hb);clear hb hl
   have HW2:=HW;generalize fH v (aP k 0 0 [])=E2 at*;have hl:=cf IG.o.pk;have hst:=aW IG.o.res;rcases HW2.o with ⟨h2,hr⟩ | ⟨h2,hr⟩
   ·subst h2;have HR:=aa hr;clear hr
    go_wp2;refine av (aI rfl _ rfl IG.o.some.2.1) rfl ?_;exact fo HR.o IG.o.some.2.2 IG.o.some.1
   ·have e0:(E2 !=0)=true:=aA.2 h2;have HR:=aa hr;clear hr h2
    go_wp2;refine av (aI rfl _ rfl IG.o.none.2) rfl ?_;exact cL HR.o IG.o.none.1
  ·rw[ah hz]at hem;have HR:Hid (gX v k s=(pk0,5)):=aa (by simpa [ht,hp,hz]using HW0.o);have hst:=aW I2.o.res;clear hm hz ht hp;go_wp2;refine av (aI rfl _ rfl I2.o.none.2) rfl ?_;exact cL HR.o I2.o.none.1
 ·have ht:fA v k s=iO k s:=by unfold fA;rw[if_pos hm]
  have hp:fN v k s=aP k 0 (iO k s).1 (iO k s).2.1:=by unfold fN;rw[ht]
  have hgd:=mA (v:=v) (k:=k) HS.o;rw[ht]at hgd;have HOK0:Hid (PkOk (aP k 0 (iO k s).1 (iO k s).2.1)):=aa (iw hgd.1 (by have:=hgd.2;omega));have HW1:=HW0.o;rw[hp,ht]at HW1;have HW:=aa HW1;clear hm ht hp hgd HW1
  go_wp2_with fail
  refine(AQ k s _ HS.o).mono ?_;rintro e w3 ⟨A,n,rfl,hcap,hrd,hb⟩;have I3:=aa (I2.o.below hb);generalize iO k s=R at*;obtain⟨c,l,x⟩:=R;simp only at hcap hrd HW HOK0⊢;have I4:=aa (I3.o.put (c':=c) hrd hcap);have f1:w3.cell? ⟨w1.heap.size,21,none⟩=some (.int .i64 0):=I3.o.pk.cell 21;have f2:w3.cell? ⟨w1.heap.size,24,none⟩=some (.slice none 0 0):=I3.o.pk.cell 24;have g1:=I3.o.pk.free 21;have g2:=I3.o.pk.free 24;have HOK:=HOK0;clear hcap hrd hb
  by_cases hx:x=0
  ·subst hx;have HW3:Hid ((fH v (aP k 0 c l)=0/\gX v k s=(aP k 0 c l,0))\/(fH v (aP k 0 c l)≠0/\gX v k s=(pk0,fH v (aP k 0 c l)))):=aa (by have:=HW.o;rwa[if_pos rfl]at this);have hl:=cf I4.o.pk
   go_wp2_with fail
   refine(nj v (aP k 0 c l) _ _ I4.o.into HOK.o).mono ?_;rintro e w4 ⟨rfl,hb⟩;have IG:=aa (I4.o.below hb);clear hb hl f1 f2 g1 g2
   have HW2:=HW3;clear HW;generalize fH v (aP k 0 c l)=E2 at*;have hl:=cf IG.o.pk;have hst:=aW IG.o.res;rcases HW2.o with ⟨h2,hr⟩ | ⟨h2,hr⟩
   ·subst h2;have HR:=aa hr;clear hr
    go_wp2;refine av (aI rfl _ rfl IG.o.some.2.1) rfl ?_;exact fo HR.o IG.o.some.2.2 IG.o.some.1
   ·have e0:(E2 !=0)=true:=aA.2 h2;have HR:=aa hr;clear hr h2
    go_wp2;refine av (aI rfl _ rfl IG.o.none.2) rfl ?_;exact cL HR.o IG.o.none.1
  ·have e0:(x==0)=false:=ar.2 hx;have e1:(x !=0)=true:=aA.2 hx;have HR:Hid (gX v k s=(pk0,x)):=aa (by
    have:=HW.o;rw[ae hx]at this;rcases this with ⟨h,_⟩ | ⟨_,h⟩
    ·exact absurd h hx
    ·exact h)
   have hst:=aW I4.o.res;clear hx HW;go_wp2;refine av (aI rfl _ rfl I4.o.none.2) rfl ?_;exact cL HR.o I4.o.none.1
end
end Go.Proofs.YtbdgkkmbnahgiaaGreatDoor
