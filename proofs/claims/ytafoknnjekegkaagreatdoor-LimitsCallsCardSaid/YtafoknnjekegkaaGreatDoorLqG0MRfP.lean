/- Parts: MRfP, RfY. -/
import Derived.Test.YtafoknnjekegkaaGreatDoorLqG0MRft
set_option maxRecDepth 10000
set_option maxHeartbeats 8000000
namespace Go.Proofs.YtafoknnjekegkaaGreatDoor
open Go.RowKit Go.Proofs.Tryz
variable {v k:Int}{X s:abO}{p:Pk}
section
theorem JF(v:Int)(p:Pk)(h:Hs)(w:abP):
  abR 54 #[.int .i64 v,pkV p h] w (.tuple #[.int .i64 (eM v p).1,.int .i64 (eM v p).2]):=by
 have b:=aa ((aq w.heap.size w).alloc (ac _) (.cells (pkC p h) PkT));have y:Hid (eM v p=if YG v=false then(0,2)else if dS v p.kind=false then(0,8)else if p.kind≠3 then(gg p.kind,0)else if tJ p=true then(0,7)else(ke p,0)):=aa rfl;have f:Hid (tJ p=decide (p.qos<0\/2<p.qos\/(p.qos=0/\p.dup=true))):=aa rfl;have u:Hid (ke p=2*p.qos+(if p.retain=true then 1 else 0)+(if p.dup=true then 8 else 0)):=aa rfl;have D:(w.alloc (.cells (pkC p h) PkT)).cell? ⟨w.heap.size,3,none⟩=some (.int .i64 p.qos):=(Bk.fresh w PkT (pkC p h)).cell 3;have E:(w.alloc (.cells (pkC p h) PkT)).cell? ⟨w.heap.size,1,none⟩=some (.bool p.dup):=(Bk.fresh w PkT (pkC p h)).cell 1;have F:(w.alloc (.cells (pkC p h) PkT)).cell? ⟨w.heap.size,2,none⟩=some (.bool p.retain):=(Bk.fresh w PkT (pkC p h)).cell 2;have G:(w.alloc (.cells (pkC p h) PkT)).cell? ⟨w.heap.size,0,none⟩=some (.int .i64 p.kind):=(Bk.fresh w PkT (pkC p h)).cell 0;go_enter func54,ntmps54;go_wp2_with fail;refine(pS v _).mono ?_;rintro e C ⟨rfl,rfl⟩;cases c:YG v
 ·have a:Hid (eM v p=(0,2)):=aa (by rw[y.o,if_pos c]);clear c;go_wp2;go_ret2;exact⟨by rw[a.o];rfl,b.o⟩
 have l:Hid (eM v p=if dS v p.kind=false then(0,8)else if p.kind≠3 then(gg p.kind,0)else if tJ p=true then(0,7)else(ke p,0)):=aa (by rw[y.o,Fl (λx=>by rw[c]at x;cases x)]);clear c y;go_wp2_with fail;refine(JO v p.kind _).mono ?_;rintro e C ⟨rfl,rfl⟩;cases c:dS v p.kind
 ·have a:Hid (eM v p=(0,8)):=aa (by rw[l.o,if_pos c]);clear c;go_wp2;go_ret2;exact⟨by rw[a.o];rfl,b.o⟩
 have m:Hid (eM v p=if p.kind≠3 then(gg p.kind,0)else if tJ p=true then(0,7)else(ke p,0)):=aa (by rw[l.o,Fl (λx=>by rw[c]at x;cases x)]);clear c l;generalize p.kind=kd at*;by_cases i:kd=3;rotate_left
 ·have z:(kd==3)=false:=ar.2 i;have j:Hid (eM v p=(gg kd,0)):=aa (by rw[m.o,if_pos i]);by_cases o:kd=6
  ·subst o;have a:Hid (eM v p=(2,0)):=aa (by rw[j.o];rfl);clear i z;go_wp2;go_ret2;exact⟨by rw[a.o];rfl,b.o⟩
  by_cases t:kd=8
  ·subst t;have a:Hid (eM v p=(2,0)):=aa (by rw[j.o];rfl);clear i z o;go_wp2;go_ret2;exact⟨by rw[a.o];rfl,b.o⟩
  by_cases n:kd=10
  ·subst n;have a:Hid (eM v p=(2,0)):=aa (by rw[j.o];rfl);clear i z o t;go_wp2;go_ret2;exact⟨by rw[a.o];rfl,b.o⟩
  ·have a:Hid (eM v p=(0,0)):=aa (by rw[j.o];unfold gg;rw[Fl (by omega)]);have J:(kd==6)=false:=ar.2 o;have K:(kd==8)=false:=ar.2 t;have H:(kd==10)=false:=ar.2 n;clear i o t n;go_wp2;go_ret2;exact⟨by rw[a.o];rfl,b.o⟩
 subst i;have g:Hid (eM v p=if tJ p=true then(0,7)else(ke p,0)):=aa (by rw[m.o,Fl (λx=>x rfl)]);clear m;generalize p.qos=q at*;generalize p.dup=d at*;generalize p.retain=r at*;by_cases k:q<0
 ·have a:Hid (eM v p=(0,7)):=aa (by rw[g.o,if_pos (by rw[f.o];exact au (.inl k))]);have A:decide (q<0)=true:=au k;clear k;go_wp2;go_ret2;exact⟨by rw[a.o];rfl,b.o⟩
 have A:decide (q<0)=false:=ah k;by_cases s:2<q
 ·have a:Hid (eM v p=(0,7)):=aa (by rw[g.o,if_pos (by rw[f.o];exact au (.inr (.inl s)))]);have I:decide (2<q)=true:=au s;clear k s;go_wp2;go_ret2;exact⟨by rw[a.o];rfl,b.o⟩
 have B:q=0\/q=1\/q=2:=by omega
 clear k s A;obtain rfl| rfl| rfl:=B
 ·cases d
  ·have a:Hid (eM v p=(ke p,0)):=aa (by rw[g.o,Fl (by rw[f.o];decide)]);cases r
   all_goals
    go_wp2;go_ret2;exact⟨by rw[a.o,u.o];rfl,b.o⟩
  ·have a:Hid (eM v p=(0,7)):=aa (by rw[g.o,if_pos (by rw[f.o];decide)]);go_wp2;go_ret2;exact⟨by rw[a.o];rfl,b.o⟩
 all_goals
  have a:Hid (eM v p=(ke p,0)):=aa (by rw[g.o,Fl (by rw[f.o];simp)]);cases d<;>cases r
  all_goals
   go_wp2;go_ret2;exact⟨by rw[a.o,u.o];rfl,b.o⟩
theorem Ik(p:Pk)(h:Hs)(w:abP)(ip:PkIn w w.heap.size p h)(ok:PkOk p):
  abR 191 #[pkV p h] w (.tuple #[.int .i64 (xg p.props 35).n,.bool (qR p)]):=by
 have g:=FK p.props 35 ok.props;have k:=aa ok;have d:=aa ((St.start w).push ip);clear ip ok;go_enter func191,ntmps191;go_wp2_with fail;refine Yg (Hy 35 p.props h.props.a h.props.c _ (d.o.into 0 rfl).props k.o.len.2.2.2) λs f=>?_;have l:=aa (d.o.below f);clear f
 have i:Hid (qR p=(nh p.props 35).isSome):=aa rfl;generalize (nh p.props 35).isSome=al at*;obtain⟨q,b⟩:∃q,xg p.props 35=q:=⟨_,rfl⟩;rw[b]at g⊢;have j:=aa b;clear b;obtain⟨o,n,t,u⟩:=q;simp only at g;have r:IntKind.i64.wrap (n:Int)=(n:Int):=by rw[aQ];omega
 simp only[Pr.val];have m:=aa (l.o.alloc (.cells #[.int .i64 o,.int .u32 n,.string t,.string u] 71));go_wp2;go_ret2;exact⟨by rw[i.o,j.o];rfl,m.o.kept⟩
theorem Mg(p:Pk)(A:Option Addr)(c:Nat)(w:abP):(qP #[(0,.int .i64 p.kind),(1,.bool p.dup),(2,.bool p.retain),(3,.int .i64 p.qos),(4,.int .i64 p.id),(5,.string p.topic),(6,.string p.payload),(20,.slice A p.props.length c)]).run prog w= .ok (pkV (zA p) {hs0 with props:=⟨A,c⟩}) w:=by kernel_rfl
theorem OY{w:abP}{B:Nat}{h:Hs}(i:PkIn w B p h):PkIn w B (zA p) {hs0 with props:=⟨h.props.a,h.props.c⟩}:=
 ⟨Rd.nil _ _ _ _,Rd.nil _ _ _ _,Rd.nil _ _ _ _,i.props,ag _,ag _,ag _,i.caps.2.2.2⟩
theorem Oe(h:gz p):gz (zA p):=⟨ag _,ag _,ag _,h.2.2.2⟩
theorem IW(v:Int)(p:Pk)(h:Hs)(w:abP)(ip:PkIn w w.heap.size p h)(ok:PkOk p):
  abR 120 #[.int .i64 v,pkV p h] w (.int .i64 (ii v p)):=by
 have y:=aa ok;have S:=aa ((St.start w).push ip);have K:Hid (dK v p 0=if YG v=true/\p.kind=3 then 0 else 2):=aa rfl;have F:Hid (dK v p 1=(eM v p).2):=aa rfl;have t:Hid (dK v p 2=if kL v p=true then 0 else 2):=aa rfl;have l:Hid (dK v p 3=if tc v p=true then 0 else 10):=aa rfl;have R:Hid (dK v p 4=(aM 3 p.props).2):=aa rfl;have Z:Hid (ii v p=if dK v p 0≠0 then dK v p 0 else if dK v p 1≠0 then dK v p 1 else if dK v p 2≠0 then dK v p 2 else if dK v p 3≠0 then dK v p 3 else dK v p 4):=aa rfl;clear ip ok;go_enter func120,ntmps120;go_wp2_with fail;refine(pS v _).mono ?_;rintro e w1 ⟨rfl,rfl⟩;have k0:=S.o.cell 0 rfl 0;rw[cI]at k0;cases P:YG v
 ·have d:Hid (ii v p=2):=aa (by
   have b:dK v p 0=2:=by rw[K.o,Fl (λx=>by rw[P]at x;cases x.1)]
   rw[Z.o,b];rfl)
  clear P;go_wp2;go_ret;exact⟨by rw[d.o];rfl,S.o.kept⟩
 by_cases I:p.kind=3;rotate_left
 ·have d:Hid (ii v p=2):=aa (by
   have b:dK v p 0=2:=by rw[K.o,Fl (λx=>I x.2)]
   rw[Z.o,b];rfl)
  have e3:(p.kind !=3)=true:=aA.2 I;clear P I;go_wp2;go_ret;exact⟨by rw[d.o];rfl,S.o.kept⟩
 have e3:(p.kind !=3)=false:=by simpa using I
 have Q:Hid (ii v p=if dK v p 1≠0 then dK v p 1 else if dK v p 2≠0 then dK v p 2 else if dK v p 3≠0 then dK v p 3 else dK v p 4):=aa (by
  have b:dK v p 0=0:=by rw[K.o,if_pos ⟨P,I⟩]
  rw[Z.o,b,Fl (λx=>x rfl)])
 have J:=aa (And.intro P I);clear P I Z K;have hl:=S.o.ld 0 rfl;go_wp2_with fail;refine Yg (JF v p h _) λw1 j=>?_;have B:=aa (S.o.below j);clear j hl k0 e3
 obtain⟨fl,V⟩:∃fl,eM v p=fl:=⟨_,rfl⟩;rw[V]at F⊢;have ae:=aa V;clear V;obtain⟨f1,f2⟩:=fl;simp only at F⊢;by_cases hf:f2=0;rotate_left
 ·have d:Hid (ii v p=f2):=aa (by rw[Q.o,F.o,if_pos hf]);have e2:(f2 !=0)=true:=aA.2 hf;clear hf;go_wp2;go_ret;exact⟨by rw[d.o];rfl,B.o.kept⟩
 subst hf;have s:Hid (ii v p=if dK v p 2≠0 then dK v p 2 else if dK v p 3≠0 then dK v p 3 else dK v p 4):=aa (by rw[Q.o,F.o,Fl (λx=>x rfl)]);have ay:Hid (0<=p.qos/\p.qos<=2):=aa (by
  have G:=ae.o;unfold eM at G;rw[J.o.1,J.o.2]at G;rw[Fl (by simp)]at G;by_cases ai:dS v 3=false
  ·rw[if_pos ai]at G;cases G
  rw[Fl ai,Fl (λx=>x rfl)]at G;by_cases ag:tJ p=true
  ·rw[if_pos ag]at G;cases G
  ·have aB:tJ p=false:=by simpa using ag
   have:=Gy aB;omega)
 clear Q F ae;have j0:=B.o.cell 0 rfl 0;have j1:=B.o.cell 0 rfl 1;have j2:=B.o.cell 0 rfl 2;have j3:=B.o.cell 0 rfl 3;have j4:=B.o.cell 0 rfl 4;have j5:=B.o.cell 0 rfl 5;have j6:=B.o.cell 0 rfl 6;have aj:=B.o.cell 0 rfl 24;rw[cI]at j0;rw[dC]at j1;rw[dB]at j2;rw[dt]at j3;rw[dj]at j4;rw[di]at j5;rw[dA]at j6;rw[bR]at aj;have aC:=λW=>Mg p h.props.a h.props.c W;have T:Hid (St w [(w.heap.size,p,h),(w1.heap.size,zA p,{hs0 with props:=⟨h.props.a,h.props.c⟩})] (w1.alloc (.cells (pkC (zA p) {hs0 with props:=⟨h.props.a,h.props.c⟩}) PkT))):=aa (B.o.push (OY (B.o.into 0 rfl)));have aD:=T.o.ld 0 rfl;have aE:=T.o.ld 1 rfl;go_wp2_with fail;refine Yg (GP p (zA p) h _ _ (T.o.into 0 rfl) (T.o.into 1 rfl) y.o.len (Oe y.o.len)) λw3 j=>?_;have r:=aa (T.o.below j);clear j aD aE j0 j1 j2 j3 j4 j5 j6 aj aC
 have k3:=r.o.cell 0 rfl 3;have k4:=r.o.cell 0 rfl 4;have M:=r.o.cell 0 rfl 24;rw[dt]at k3;rw[dj]at k4;rw[bR]at M;have X:=r.o.ld 0 rfl;by_cases E:p=zA p;rotate_left
 ·have d:Hid (ii v p=2):=aa (by
   have b:dK v p 2=2:=by rw[t.o,Fl (by unfold kL;simp only[Fx];exact λx=>E x.1)]
   rw[s.o,b];rfl)
  rw[ah E];clear E;go_wp2;go_ret;exact⟨by rw[d.o];rfl,r.o.kept⟩
 rw[au E];have L:=aa E;clear E;by_cases m:p.qos=0
 focus
  have q0:(p.qos==0)=true:=aK.2 m;have q1:decide ((0:Int)<p.qos)=false:=ah (by omega);by_cases q:p.id=0;rotate_left
  ·have d:Hid (ii v p=2):=aa (by
    have b:dK v p 2=2:=by rw[t.o,Fl (by unfold kL;simp only[Fx];exact λx=>q (x.2.2.1 m))]
    rw[s.o,b];rfl)
   have i0:(p.id !=0)=true:=aA.2 q;clear m q;go_wp2;go_ret;exact⟨by rw[d.o];rfl,r.o.kept⟩
  have i0:(p.id !=0)=false:=by simpa using q
  have o:v≠4->Hid (v=5):=λx=>aa (by have:=aR (show decide (v=4\/v=5)=true from J.o.1);omega);by_cases g:v=4
  ·have e4:(v==4)=true:=aK.2 g;have e5:(v==5)=false:=ar.2 (by omega);by_cases b:0<p.props.length
   ·have d:Hid (ii v p=2):=aa (by
     have b:dK v p 2=2:=by rw[t.o,Fl (by unfold kL;simp only[Fx];exact λx=>x.2.1 ⟨g,b⟩)]
     rw[s.o,b];rfl)
    have d0:decide ((0:Int)<(p.props.length:Int))=true:=au (by omega);have d1:decide (0<p.props.length)=true:=au b;clear m q o g b;go_wp2;go_ret;exact⟨by rw[d.o];rfl,r.o.kept⟩
   ·have i:Hid (ii v p=if dK v p 3≠0 then dK v p 3 else dK v p 4):=aa (by
     have b:dK v p 2=0:=by rw[t.o,if_pos (by unfold kL;exact au ⟨L.o,λx=>b x.2,λ_=>q,λx=>absurd m x⟩)]
     rw[s.o,b,Fl (λx=>x rfl)])
    have C:Hid (GI v 3 p.props=(aM 3 p.props).2):=aa (by
     unfold GI;rw[if_pos g,Fl b,show p.props=[]from aF (by omega)];rfl)
    have d0:decide ((0:Int)<(p.props.length:Int))=false:=ah (by omega);have d1:decide (0<p.props.length)=false:=ah b;have H4:=aa g;clear m q o g b;go_wp2_with fail;refine Yg (Ik p h _ (r.o.into 0 rfl) y.o) λw4 j=>?_;have f:=aa (r.o.below j);clear j X k3 k4 M
    have Y:=f.o.cell 0 rfl 5;rw[di]at Y;have H:=f.o.cell 0 rfl 24;rw[bR]at H;go_wp2_with fail;refine(Hg p.topic _ (by have:=y.o.texts.1;omega)).mono ?_;rintro e w5 ⟨rfl,rfl⟩;have z:=kR p.topic;have u:Hid (tc v p=(fp p.topic || (decide (v=5)&&(qR p&&p.topic.toList.isEmpty)))):=aa (by rw[z];rfl);clear z;generalize (xg p.props 35).n=al at*;cases k:fp p.topic
    ·rw[k,nB]at u;have af:=aa k;cases N:p.topic.toList.isEmpty
     ·have d:Hid (ii v p=10):=aa (by
       have b:dK v p 3=10:=by rw[l.o,Fl (by rw[u.o,N,ru,ru];simp)]
       rw[i.o,b];rfl)
      clear k;go_wp2;go_ret;exact⟨by rw[d.o];rfl,f.o.kept⟩
     cases A:qR p
     ·have d:Hid (ii v p=10):=aa (by
       have b:dK v p 3=10:=by rw[l.o,Fl (by rw[u.o,A,YH,ru];simp)]
       rw[i.o,b];rfl)
      clear k A;go_wp2;go_ret;exact⟨by rw[d.o];rfl,f.o.kept⟩
     have d:Hid (ii v p=10):=aa (by
      have b:dK v p 3=10:=by rw[l.o,Fl (by rw[u.o,ah (by have:=H4.o;omega),YH];simp)]
      rw[i.o,b];rfl)
     clear k A;go_wp2;go_ret;exact⟨by rw[d.o];rfl,f.o.kept⟩
    ·have D:Hid (ii v p=dK v p 4):=aa (by
      have b:dK v p 3=0:=by rw[l.o,if_pos (by unfold tc;rw[k];rfl)]
      rw[i.o,b,Fl (λx=>x rfl)])
     clear k;go_wp2_with fail;refine Yg (Gx v 3 p.props _ rfl y.o.props h.props.a h.props.c _ (f.o.into 0 rfl).props y.o.len.2.2.2 (f.o.into 0 rfl).caps.2.2.2) λw6 j=>?_;have U:=aa (f.o.below j);clear j
     rw[C.o];go_wp2;go_ret;exact⟨by rw[D.o,R.o];rfl,U.o.kept⟩
  focus
   have e4:(v==4)=false:=ar.2 g;have e5:(v==5)=true:=aK.2 (o g).out;have H5:Hid (v=5):=o g;have i:Hid (ii v p=if dK v p 3≠0 then dK v p 3 else dK v p 4):=aa (by
    have b:dK v p 2=0:=by rw[t.o,if_pos (by unfold kL;exact au ⟨L.o,λx=>g x.1,λ_=>q,λx=>absurd m x⟩)]
    rw[s.o,b,Fl (λx=>x rfl)])
   have C:Hid (GI v 3 p.props=(aM 3 p.props).2):=aa (Fl g);clear m q o g
  rotate_left
 rotate_left
 focus
  have q0:(p.qos==0)=false:=ar.2 m;have q1:decide ((0:Int)<p.qos)=true:=au (by have:=ay.o;omega);by_cases q:p.id<1
  ·have d:Hid (ii v p=2):=aa (by
    have b:dK v p 2=2:=by rw[t.o,Fl (by unfold kL;simp only[Fx];exact λx=>by have:=(x.2.2.2 m).1;omega)]
    rw[s.o,b];rfl)
   have i1:decide (p.id<(1:Int))=true:=au q;clear m q;go_wp2;go_ret;exact⟨by rw[d.o];rfl,r.o.kept⟩
  have i1:decide (p.id<(1:Int))=false:=ah q;by_cases O:65535<p.id
  ·have d:Hid (ii v p=2):=aa (by
    have b:dK v p 2=2:=by rw[t.o,Fl (by unfold kL;simp only[Fx];exact λx=>by have:=(x.2.2.2 m).2;omega)]
    rw[s.o,b];rfl)
   have i2:decide ((65535:Int)<p.id)=true:=au O;clear m q O;go_wp2;go_ret;exact⟨by rw[d.o];rfl,r.o.kept⟩
  have i2:decide ((65535:Int)<p.id)=false:=ah O;have o:v≠4->Hid (v=5):=λx=>aa (by have:=aR (show decide (v=4\/v=5)=true from J.o.1);omega);by_cases g:v=4
  ·have e4:(v==4)=true:=aK.2 g;have e5:(v==5)=false:=ar.2 (by omega);by_cases b:0<p.props.length
   ·have d:Hid (ii v p=2):=aa (by
     have b:dK v p 2=2:=by rw[t.o,Fl (by unfold kL;simp only[Fx];exact λx=>x.2.1 ⟨g,b⟩)]
     rw[s.o,b];rfl)
    have d0:decide ((0:Int)<(p.props.length:Int))=true:=au (by omega);have d1:decide (0<p.props.length)=true:=au b;clear m q O o g b;go_wp2;go_ret;exact⟨by rw[d.o];rfl,r.o.kept⟩
   ·have i:Hid (ii v p=if dK v p 3≠0 then dK v p 3 else dK v p 4):=aa (by
     have b:dK v p 2=0:=by rw[t.o,if_pos (by unfold kL;exact au ⟨L.o,λx=>b x.2,λx=>absurd x m,λ_=>⟨by omega,by omega⟩⟩)]
     rw[s.o,b,Fl (λx=>x rfl)])
    have C:Hid (GI v 3 p.props=(aM 3 p.props).2):=aa (by
     unfold GI;rw[if_pos g,Fl b,show p.props=[]from aF (by omega)];rfl)
    have d0:decide ((0:Int)<(p.props.length:Int))=false:=ah (by omega);have d1:decide (0<p.props.length)=false:=ah b;have H4:=aa g;clear m q O o g b;go_wp2_with fail;refine Yg (Ik p h _ (r.o.into 0 rfl) y.o) λw4 j=>?_;have f:=aa (r.o.below j);clear j X k3 k4 M
    have Y:=f.o.cell 0 rfl 5;rw[di]at Y;have H:=f.o.cell 0 rfl 24;rw[bR]at H;go_wp2_with fail;refine(Hg p.topic _ (by have:=y.o.texts.1;omega)).mono ?_;rintro e w5 ⟨rfl,rfl⟩;have z:=kR p.topic;have u:Hid (tc v p=(fp p.topic || (decide (v=5)&&(qR p&&p.topic.toList.isEmpty)))):=aa (by rw[z];rfl);clear z;generalize (xg p.props 35).n=al at*;cases k:fp p.topic
    ·rw[k,nB]at u;have af:=aa k;cases N:p.topic.toList.isEmpty
     ·have d:Hid (ii v p=10):=aa (by
       have b:dK v p 3=10:=by rw[l.o,Fl (by rw[u.o,N,ru,ru];simp)]
       rw[i.o,b];rfl)
      clear k;go_wp2;go_ret;exact⟨by rw[d.o];rfl,f.o.kept⟩
     cases A:qR p
     ·have d:Hid (ii v p=10):=aa (by
       have b:dK v p 3=10:=by rw[l.o,Fl (by rw[u.o,A,YH,ru];simp)]
       rw[i.o,b];rfl)
      clear k A;go_wp2;go_ret;exact⟨by rw[d.o];rfl,f.o.kept⟩
     have d:Hid (ii v p=10):=aa (by
      have b:dK v p 3=10:=by rw[l.o,Fl (by rw[u.o,ah (by have:=H4.o;omega),YH];simp)]
      rw[i.o,b];rfl)
     clear k A;go_wp2;go_ret;exact⟨by rw[d.o];rfl,f.o.kept⟩
    ·have D:Hid (ii v p=dK v p 4):=aa (by
      have b:dK v p 3=0:=by rw[l.o,if_pos (by unfold tc;rw[k];rfl)]
      rw[i.o,b,Fl (λx=>x rfl)])
     clear k;go_wp2_with fail;refine Yg (Gx v 3 p.props _ rfl y.o.props h.props.a h.props.c _ (f.o.into 0 rfl).props y.o.len.2.2.2 (f.o.into 0 rfl).caps.2.2.2) λw6 j=>?_;have U:=aa (f.o.below j);clear j
     rw[C.o];go_wp2;go_ret;exact⟨by rw[D.o,R.o];rfl,U.o.kept⟩
  focus
   have e4:(v==4)=false:=ar.2 g;have e5:(v==5)=true:=aK.2 (o g).out;have H5:Hid (v=5):=o g;have i:Hid (ii v p=if dK v p 3≠0 then dK v p 3 else dK v p 4):=aa (by
    have b:dK v p 2=0:=by rw[t.o,if_pos (by unfold kL;exact au ⟨L.o,λx=>g x.1,λx=>absurd x m,λ_=>⟨by omega,by omega⟩⟩)]
    rw[s.o,b,Fl (λx=>x rfl)])
   have C:Hid (GI v 3 p.props=(aM 3 p.props).2):=aa (Fl g);clear m q O o g
  rotate_left
 rotate_left
 all_goals
  go_wp2_with fail;refine Yg (Ik p h _ (r.o.into 0 rfl) y.o) λw4 j=>?_;have f:=aa (r.o.below j);clear j X k3 k4 M
  have Y:=f.o.cell 0 rfl 5;rw[di]at Y;have H:=f.o.cell 0 rfl 24;rw[bR]at H;go_wp2_with fail;refine(Hg p.topic _ (by have:=y.o.texts.1;omega)).mono ?_;rintro e w5 ⟨rfl,rfl⟩;have z:=kR p.topic;have u:Hid (tc v p=(fp p.topic || (decide (v=5)&&(qR p&&p.topic.toList.isEmpty)))):=aa (by rw[z];rfl);clear z;generalize (xg p.props 35).n=al at*;cases k:fp p.topic
  focus
   rw[k,nB]at u;have af:=aa k;cases N:p.topic.toList.isEmpty
   ·have d:Hid (ii v p=10):=aa (by
     have b:dK v p 3=10:=by rw[l.o,Fl (by rw[u.o,N,ru,ru];simp)]
     rw[i.o,b];rfl)
    clear k;go_wp2;go_ret;exact⟨by rw[d.o];rfl,f.o.kept⟩
   cases A:qR p
   ·have d:Hid (ii v p=10):=aa (by
     have b:dK v p 3=10:=by rw[l.o,Fl (by rw[u.o,A,YH,ru];simp)]
     rw[i.o,b];rfl)
    clear k A;go_wp2;go_ret;exact⟨by rw[d.o];rfl,f.o.kept⟩
   have D:Hid (ii v p=dK v p 4):=aa (by
    have b:dK v p 3=0:=by rw[l.o,if_pos (by rw[u.o,N,A,au H5.o];rfl)]
    rw[i.o,b,Fl (λx=>x rfl)])
   clear k A
  rotate_left
  focus
   have D:Hid (ii v p=dK v p 4):=aa (by
    have b:dK v p 3=0:=by rw[l.o,if_pos (by unfold tc;rw[k];rfl)]
    rw[i.o,b,Fl (λx=>x rfl)])
   clear k
  rotate_left
  all_goals
   go_wp2_with fail;refine Yg (Gx v 3 p.props _ rfl y.o.props h.props.a h.props.c _ (f.o.into 0 rfl).props y.o.len.2.2.2 (f.o.into 0 rfl).caps.2.2.2) λw6 j=>?_;have U:=aa (f.o.below j);clear j
   rw[C.o];go_wp2;go_ret;exact⟨by rw[D.o,R.o];rfl,U.o.kept⟩
theorem PQ(T Y:abO):T++(⟨#[]⟩:abO)++Y=T++Y:=eX (by rw[fe,fe,fe];simp[ls])
theorem Md{l:List Pr}(h:(aM 3 l).2=0):(Hq v 3 l).size<=131075004:=by
 unfold Hq;split
 ·exact ag _
 ·rw[GW];exact(G6 3 l h).2
theorem JV(v:Int)(p:Pk)(h:Hs)(w:abP)(ip:PkIn w w.heap.size p h)(ok:PkOk p):
  abR 130 #[.int .i64 v,pkV p h] w (.tuple #[.string (Gf v p).1,.int .i64 (Gf v p).2]):=by
 have j:=aa ok;have M:=aa ((St.start w).push ip);have V:Hid (Gf v p=if ii v p=0 then(ys v p++p.payload,0)else(⟨#[]⟩,ii v p)):=aa rfl;have H2:Hid (ys v p=if v=5 then BH p++⟨(aM p.kind p.props).1.toArray⟩else BH p):=aa rfl;have J:Hid (BH p=if p.qos≠0 then cQ p.topic++⟨(Yk p.id.toNat 2).toArray⟩else cQ p.topic):=aa rfl;clear ip ok;have hl:=M.o.ld 0 rfl;go_enter func130,ntmps130;go_wp2_with fail;refine Yg (IW v p h _ (M.o.into 0 rfl) j.o) λw1 i=>?_;have N:=aa (M.o.below i);clear i hl
 by_cases l:ii v p=0;rotate_left
 ·have e0:(ii v p !=0)=true:=aA.2 l;have K:Hid (Gf v p=(⟨#[]⟩,ii v p)):=aa (by rw[V.o,Fl l]);clear l;go_wp2;go_ret2;exact⟨by rw[K.o];rfl,N.o.kept⟩
 have K:Hid (Gf v p=(ys v p++p.payload,0)):=aa (by rw[V.o,if_pos l]);have G:=aa (zB l);rw[l];have HT:=aa (gL G.o.topic);have t:∀Q:abO,BH p=Q->Hid (Gf v p=(Q++Hq v 3 p.props++p.payload,0)):=λQ hQ=>aa (by
  rw[K.o,H2.o];unfold Hq;by_cases O:v=5
  ·rw[if_pos O,Fl (by omega),hQ,G.o.kind]
  ·have h4:=G.o.k.resolve_right O;rw[Fl O,if_pos h4,hQ,PQ])
 have b:=aa (Md (v:=v) G.o.bytes);have k1:=N.o.cell 0 rfl 5;rw[di]at k1;clear l;go_wp2_with fail;refine Yg (JC p.topic _ (by have:=j.o.texts.1;omega)) λD i=>?_;have f:=aa (N.o.below i);clear i k1
 rw[show IM p.topic=(cQ p.topic,0)from if_pos G.o.topic];simp only;have u:(cQ p.topic).size<=65537:=by rw[eN];have:=HT.o;omega
 obtain⟨T,hT⟩:∃T,cQ p.topic=T:=⟨_,rfl⟩;rw[hT]at u J⊢;have g:=aa u;obtain⟨Y,C⟩:∃Y:abO,p.payload=Y:=⟨_,rfl⟩;have HY:Hid (Y.size<=140737488351232):=aa (by rw[<-C];exact j.o.texts.2.1);rw[C]at t;have H:=aa C;have F:=aa t;clear hT u C t;have k2:=f.o.cell 0 rfl 3;rw[dt]at k2;have S:=f.o.cell 0 rfl 4;rw[dj]at S;by_cases q:p.qos=0
 focus
  have eq:decide ((0:Int)<p.qos)=false:=ah (by omega);have A:=F.o T (by rw[J.o,Fl (λy=>y q)]);clear q S;obtain⟨Z,o⟩:∃Z:abO,Hq v 3 p.props=Z:=⟨_,rfl⟩;rw[o]at A b;have L:=aa o;have z:=jw (W:=D) (λx R=>G5 v 3 p.props _ rfl j.o.props h.props.a h.props.c x ((f.o.below R).into 0 rfl).props j.o.len.2.2.2 (f.o.into 0 rfl).caps.2.2.2);rw[L.o]at z;have k6:=cell_regrown (show D.cell? ⟨w.heap.size,6,none⟩=some (.string Y) by rw[<-H.o];exact f.o.cell 0 rfl 6);have I:=cell_regrown (show D.cell? ⟨w.heap.size,24,none⟩=some (.slice h.props.a p.props.length h.props.c)from f.o.cell 0 rfl 24);have ai:¬(9223372036854775807<T.size+Z.size):=by have:=g.o;have:=b.o;omega
  have aj:¬(9223372036854775807<T.size+Z.size+Y.size):=by have:=g.o;have:=b.o;have:=HY.o;omega
  have r:=aa (λd U=>f.o.kept.trans ((below_regrown D d U).mono f.o.kept.size))
 rotate_left
 focus
  have eq:decide ((0:Int)<p.qos)=true:=au (by
   have:=Gy G.o.flags;omega)
  obtain⟨m,hm,ay⟩:∃m:Nat,Hid (p.id.toNat=m)/\IntKind.u64.wrap p.id=(m:Int):=⟨_,aa rfl,by rw[iZ];have:=G.o.id1 q;omega⟩;have HM:Hid (m<65536):=aa (by have:=hm.out;have:=G.o.id1 q;omega);obtain⟨X,B⟩:∃X:abO,(⟨(Yk m 2).toArray⟩:abO)=X:=⟨_,rfl⟩;have ab:=aa B;have s:Hid (X.size=2):=aa (by rw[<-B,GW,fM]);have A:=F.o (T++X) (by rw[J.o,if_pos q,hm.out,B]);clear q B;go_wp2_with fail;refine Yg (GV m 2 _ (by have:=HM.o;omega) (by omega) (by omega)) λE i=>?_;have n:=aa (f.o.below i);clear i k2 S
  rw[ab.o];have hs0:¬(9223372036854775807<T.size+X.size):=by have:=g.o;have:=s.o;omega
  obtain⟨Z,o⟩:∃Z:abO,Hq v 3 p.props=Z:=⟨_,rfl⟩;rw[o]at A b;have L:=aa o;have z:=jw (W:=E) (λx R=>G5 v 3 p.props _ rfl j.o.props h.props.a h.props.c x ((n.o.below R).into 0 rfl).props j.o.len.2.2.2 (n.o.into 0 rfl).caps.2.2.2);rw[L.o]at z;have k6:=cell_regrown (show E.cell? ⟨w.heap.size,6,none⟩=some (.string Y) by rw[<-H.o];exact n.o.cell 0 rfl 6);have I:=cell_regrown (show E.cell? ⟨w.heap.size,24,none⟩=some (.slice h.props.a p.props.length h.props.c)from n.o.cell 0 rfl 24);have ai:¬(9223372036854775807<T.size+X.size+Z.size):=by have:=g.o;have:=s.o;have:=b.o;omega
  have aj:¬(9223372036854775807<T.size+X.size+Z.size+Y.size):=by have:=g.o;have:=s.o;have:=b.o;have:=HY.o;omega
  have r:=aa (λd U=>n.o.kept.trans ((below_regrown E d U).mono n.o.kept.size))
 rotate_left
 all_goals
  clear o;go_wp2_with fail;refine wp_region_quiet_below (by kernel_rfl) (by kernel_rfl) ?_
  repeat (go_big_quiet_step (with_reducible exact z _ _))
  refine kE ?_;intro _ ak;obtain⟨⟨dq,osq⟩,P⟩:=ak;subst P;have KF:=aa (r.o dq osq);clear z k6 I r;generalize Sort.grow (redrawn _ dq) osq=wq at*;go_wp2;go_ret2;exact⟨by rw[A.o];rfl,KF.o⟩
def rN(f:Int)(X:abO):Nat×Nat×Int:=if f/ 2% 4≠0 then(br X 0 0 2,(aH X 0 0 2).2.1,(aH X 0 0 2).2.2)else(0,0,0)
def rP(v f:Int)(X:abO):List Pr×Nat×Int:=QK v 3 X (rN f X).2.1 (rN f X).2.2
def rY(v f:Int)(X:abO):abO:=(aH X (rP v f X).2.1 (rP v f X).2.2 ((X.size- (rP v f X).2.1:Nat):Int)).1
def rQ(v f:Int)(T X:abO):Pk:=eU f T (rN f X).1 (rP v f X).1 (rY v f X)
def rE(v f:Int)(T X:abO):Int:=if(rP v f X).2.2=0 then ii v (rQ v f T X)else(rP v f X).2.2
theorem Ul(f:Int)(X:abO):(rN f X).2.1<=X.size:=by
 unfold rN;split
 ·exact dy (ag _) _ _
 ·exact ag _
theorem SH(v f:Int)(X:abO):(rP v f X).2.1<=X.size:=by
 have h:=Ul f X;unfold rP QK;split
 ·exact h
 ·have:=Bt 3 (X.extract (rN f X).2.1 X.size);rw[aj]at this;show(rN f X).2.1+_<=_;omega
theorem Sg{a:Nat}(h:a<=X.size):aH X a 0 ((X.size- a:Nat):Int)=(X.extract a X.size,X.size,0):=by
 rw[dZ (by omega),show a+(X.size- a)=X.size by omega]
theorem TQ{f:Int}{T:abO}{N:Nat}(hk:YG v=true)(hc:eJ v f=0)(hu:ab0 s=(T,N,0))(hX:s.extract N s.size=X)(hN:N<=s.size):km v f s=if rE v f T X≠0 then(pk0,rE v f T X)else(rQ v f T X,0):=by
 have o:X.size=s.size- N:=by rw[<-hX,aj];omega
 have k:∀i j,j<=X.size->X.extract i j=s.extract (N+i) (N+j):=λi j E=>by rw[<-hX,Qp (by omega)]
 have B:¬v=4->v=5:=λh=>by have:=aR (show decide (v=4\/v=5)=true from hk);omega
 unfold km;rw[Fl (λx=>by rw[hk]at x;cases x),Fl (λx=>x hc),hu,Fl (λx=>x rfl)];simp only;by_cases a:f/ 2% 4≠0/\s.size<N+2
 ·have u:rN f X=(0,0,3):=by
   unfold rN br;have d:aH X 0 0 (2:Nat)=(⟨#[]⟩,0,3):=kH (by omega);rw[show((2:Nat):Int)=2 from rfl]at d;rw[if_pos a.1,d];rfl
  have w:rP v f X=([],0,3):=by unfold rP QK;rw[u];exact if_pos (.inr (by decide))
  have c:rE v f T X=3:=by unfold rE;rw[w];rfl
  rw[if_pos a,c];rfl
 rw[Fl a];have p:rN f X=((mm f s).toNat,iu f s- N,0)/\N<=iu f s/\iu f s<=s.size/\((mm f s).toNat:Int)=mm f s:=by
  unfold rN mm iu;rw[hu];by_cases b:f/ 2% 4≠0
  ·have d:aH X 0 0 (2:Nat)=(X.extract 0 (0+2),0+2,0):=dZ (by have:¬s.size<N+2:=λx=>a ⟨b,x⟩;omega);rw[show((2:Nat):Int)=2 from rfl]at d;rw[if_pos b,if_pos b,if_pos b];unfold br;rw[d,k 0 (0+2) (by have:¬s.size<N+2:=λx=>a ⟨b,x⟩;omega)];have:¬s.size<N+2:=λx=>a ⟨b,x⟩;refine⟨?_,by simp only;omega,by simp only;omega,by simp⟩;simp
  ·rw[Fl b,Fl b,Fl b];exact⟨by simp,by simp only;omega,by simp only;omega,rfl⟩
 obtain⟨m,C,D,r⟩:=p;have l:rP v f X=((fG v f s).1,iu f s- N+(fG v f s).2.1,(fG v f s).2.2):=by
  unfold rP QK fG;rw[m];simp only;by_cases c:v=4
  ·rw[if_pos (.inl c),Fl (by omega)];rfl
  ·have y:=B c;rw[Fl (by simpa using c),if_pos y];have t:X.extract (iu f s- N) X.size=s.extract (iu f s) s.size:=by
    rw[k _ _ (ac _),o,show N+(iu f s- N)=iu f s by omega,show N+(s.size- N)=s.size by omega]
   rw[t]
 by_cases g:(fG v f s).2.2≠0
 ·have c:rE v f T X=(fG v f s).2.2:=by unfold rE;rw[l];exact Fl g
  rw[if_pos g,c,if_pos g]
 rw[Fl g];have n:=aU.1 g;have e:=SH v f X;have A:rY v f X=s.extract (iu f s+(fG v f s).2.1) s.size:=by
  unfold rY;rw[l]at e⊢;simp only at e⊢;rw[n,Sg e];simp only;rw[k _ _ (ac _),o]
  congr 1<;>omega
 have q:rQ v f T X=gI v f s:=by
  unfold rQ gI;rw[A,l,m,hu];simp only;rw[r]
 have z:rE v f T X=ii v (gI v f s):=by unfold rE;rw[l];simp only;rw[if_pos n,q]
 rw[z,q]
theorem Uk{f:Int}{T:abO}(hT:T.size<=140737488351232)(hX:X.size<=140737488351232):PkOk (rQ v f T X):=by
 have e:∀a b,(X.extract a b).size<=140737488351232:=λa b=>by rw[aj];omega
 have d:(rP v f X).1.length<=1000/\∀q∈(rP v f X).1,qc q:=by
  unfold rP QK;split
  ·exact⟨ag _,by intro q c;cases c⟩
  ·show(aZ 3 (X.extract (rN f X).2.1 X.size)).1.length<=1000/\∀q∈(aZ 3 (X.extract (rN f X).2.1 X.size)).1,qc q;have i:=e (rN f X).2.1 X.size;generalize X.extract (rN f X).2.1 X.size=Z at*;refine⟨?_,iT (kind:=3) (s:=Z) i⟩;by_cases h:(aZ 3 Z).2.2=0
   ·exact kj h
   ·rw[fZ h];exact ag _
 have g:(rY v f X).size<=140737488351232:=by
  unfold rY aH;split
  ·split
   ·exact e _ _
   ·exact ag _
  ·exact ag _
 refine⟨?_,d.2,?_,?_,?_⟩
 ·intro q c;cases c
 ·intro q c;cases c
 ·exact⟨hT,g,ag _,ag _,ag _,ag _,ag _⟩
 ·exact⟨ag _,ag _,ag _,aC d.1 (by decide)⟩
theorem YE(f:Int)(w:abP):(qP #[(0,.int .i64 3),(1,.bool (decide (8<=f))),(3,.int .i64 (f/ 2% 4)),(2,.bool (decide (f% 2=1)))]).run prog w= .ok (pkV (eU f ⟨#[]⟩ 0 [] ⟨#[]⟩) (hsP none 0)) w:=by kernel_rfl
theorem Sr{a:Nat}(h:a<=X.size)(e:Int):(aH X a e ((X.size- a:Nat):Int)).2.2=e:=by
 by_cases b:e=0
 ·subst b;rw[Sg h]
 ·rw[fY b]
structure QR (w:abP) (g gc:Nat) (f:Int) (t:abO) (i:Int) (l:List Pr) (y:abO) (A:Option Addr) (n:Nat) (S:abO) (a:Nat) (e:Int) (x:abP):Prop where
 kept:abQ w x
 res:Bk x w.heap.size PkT (pkC pk0 hs0)
 pk:Bk x g PkT (pkC (eU f t i l y) (hsP A n))
 rd:Rd x x.heap.size 4 A l.length (prs l)
 cap:l.length<=n
 base:w.heap.size<g
 cur:IC x gc S a e
 ne:g≠gc
 cb:w.heap.size<gc
section
variable {w x y:abP} {g gc:Nat} {f i:Int} {t u S:abO} {l:List Pr} {A:Option Addr} {n a:Nat} {e:Int}
theorem QR.below(h:QR w g gc f t i l u A n S a e x)(hb:abQ x y):QR w g gc f t i l u A n S a e y:=
 ⟨Yf h.kept hb,Yh h.res hb,Yh h.pk hb,(h.rd.below hb).wider hb.size,h.cap,h.base,h.cur.below hb,h.ne,h.cb⟩
theorem QR.set(h:QR w g gc f t i l u A n S a e x)(k:Nat)(v:Value){i':Int}{t' u':abO}(he:(pkC (eU f t i l u) (hsP A n)).setIfInBounds k v=pkC (eU f t' i' l u') (hsP A n)):QR w g gc f t' i' l u' A n S a e (x.setCell ⟨g,k,none⟩ v):=
 ⟨dw h.kept (YR x g k v) h.kept.size (by have:=h.base;omega),h.res.other (by have:=h.base;simp;omega) _,h.pk.upd k v he,(h.rd.other h.pk (dY _ _) (YR x g k v) (ac _)).wider (YR x g k v).size,h.cap,h.base,⟨h.cur.1.other (by have:=h.ne;simp;omega) _,h.cur.2⟩,h.ne,h.cb⟩
theorem QR.put(h:QR w g gc f t i l u A n S a e x){l':List Pr}{A':Option Addr}{n':Nat}(hr:Rd x x.heap.size 4 A' l'.length (prs l'))(hn:l'.length<=n'):QR w g gc f t i l' u A' n' S a e (x.setCell ⟨g,24,none⟩ (.slice A' l'.length n')):=
 ⟨dw h.kept (YR x g 24 _) h.kept.size (by have:=h.base;omega),h.res.other (by have:=h.base;simp;omega) _,h.pk.upd 24 _ rfl,(hr.other h.pk (dY _ _) (YR x g 24 _) (ac _)).wider (YR x g 24 _).size,hn,h.base,⟨h.cur.1.other (by have:=h.ne;simp;omega) _,h.cur.2⟩,h.ne,h.cb⟩
theorem QR.turn(h:QR w g gc f t i l u A n S a e x){a':Nat}{e':Int}(hc:IC y gc S a' e')(hm:x.grownBy y (some gc)):QR w g gc f t i l u A n S a' e' y:=
 ⟨dw h.kept hm h.kept.size (pf h.cb),h.res.mods (S:=λz=>z=gc) (qb hm rfl) (by have:=h.cb;omega),h.pk.mods (S:=λz=>z=gc) (qb hm rfl) h.ne,(h.rd.other h.cur.1 (Io _ _ _) hm (ac _)).wider hm.size,h.cap,h.base,hc,h.ne,h.cb⟩
theorem QR.into(h:QR w g gc f t i l u A n S a e x):PkIn x x.heap.size (eU f t i l u) (hsP A n):=⟨Rd.nil _ _ _ _,Rd.nil _ _ _ _,Rd.nil _ _ _ _,h.rd,ag _,ag _,ag _,h.cap⟩
theorem QR.some(h:QR w g gc f t i l u A n S a e x):abQ w (dE x w.heap.size (eU f t i l u) (hsP A n))/\Bk (dE x w.heap.size (eU f t i l u) (hsP A n)) w.heap.size PkT (pkC (eU f t i l u) (hsP A n))/\
  PkIn (dE x w.heap.size (eU f t i l u) (hsP A n)) (dE x w.heap.size (eU f t i l u) (hsP A n)).heap.size (eU f t i l u) (hsP A n):=
 ⟨YQ h.kept h.kept.size (ac _) _ _,cO h.res _ _,Rd.nil _ _ _ _,Rd.nil _ _ _ _,Rd.nil _ _ _ _,(h.rd.other h.res (dY _ _) (cJ _ _ _ _) (ac _)).wider (cJ _ _ _ _).size,ag _,ag _,ag _,h.cap⟩
end
theorem aca(v f:Int)(s:abO)(w:abP)(hs:s.size<=140737488351232):
  Calls prog 77 #[.int .i64 v,.int .i64 f,.string s] w (mu (km v f s) w):=by
 have HS:=aa hs;have U:=aa ((aq w.heap.size w).alloc (ac _) (.cells (pkC pk0 hs0) PkT));have Z:=aa (Bk.fresh w PkT (pkC pk0 hs0));have p:=aW Z.o;go_enter func77,ntmps77;go_wp2_with fail;refine(pS v _).mono ?_;rintro e y ⟨rfl,rfl⟩;cases hk:YG v
 ·have t:Hid (km v f s=(pk0,2)):=aa (by unfold km;rw[if_pos hk]);clear hk;go_wp2;refine abZ (aI rfl _ rfl (cO Z.o _ _)) rfl ?_;exact YY t.o (YQ U.o U.o.size (ac _) _ _)
 have HK:=aa hk;clear hk;go_wp2_with fail;refine Yg (Se v f _) λy d=>?_;have B:=aa (Yf U.o d);have G:=aa (Yh Z.o d)
 clear d p;have p:=aW G.o;by_cases Q:eJ v f=0;rotate_left
 ·have t:Hid (km v f s=(pk0,7)):=aa (by unfold km;rw[Fl (λx=>by rw[HK.o]at x;cases x),if_pos Q]);have e0:(eJ v f !=0)=true:=aA.2 Q;clear Q;go_wp2;refine abZ (aI rfl _ rfl (cO G.o _ _)) rfl ?_;exact YY t.o (YQ B.o B.o.size (ac _) _ _)
 have hF:0<=f/\f<16:=by
  have h2:gd f=true:=by
   have ad:=Q;unfold eJ at ad;rw[Fl (λx=>by rw[HK.o]at x;cases x)]at ad;cases hh:gd f
   ·rw[hh,if_pos rfl]at ad;exact absurd ad (by decide)
   ·rfl
  have:=aR h2;omega
 have HC:=aa Q;have e0:(eJ v f !=0)=false:=by rw[Q];rfl
 have F0:0<=f:=hF.1;have F1:f<16:=hF.2;have bz:(f% 2==1)=decide (f% 2=1):=by by_cases h:f% 2=1<;>simp[h]
 have bf:=λW=>YE f W;clear Q hF;obtain⟨T,N,E,hU⟩:∃T N E,ab0 s=(T,N,E):=⟨_,_,_,rfl⟩;have HU:=aa hU;have L:Hid (N<=s.size/\T.size<=s.size):=aa (by
  have h1:(ab0 s).2.1<=s.size/\(ab0 s).1.size<=s.size:=by
   unfold ab0 dJ;split
   ·exact⟨ag _,ag _⟩
   ·split
    ·exact⟨ag _,ag _⟩
    ·split
     ·exact⟨ag _,ag _⟩
     ·refine⟨by show 2+br s 0 0 2<=s.size;omega,?_⟩;show(s.extract _ _).size<=_;rw[aj];omega
  rw[hU]at h1;exact h1)
 clear hU;go_wp2_with fail;refine(Rl s _ (by have:=HS.o;omega)).mono ?_;rintro e w2 ⟨rfl,rfl⟩;rw[HU.o];simp only;have P0:=aa (Bk.fresh y PkT (pkC (eU f ⟨#[]⟩ 0 [] ⟨#[]⟩) (hsP none 0)));have aM:=aa (B.o.alloc B.o.size (.cells (pkC (eU f ⟨#[]⟩ 0 [] ⟨#[]⟩) (hsP none 0)) PkT));have aT:=aa (G.o.alloc (.cells (pkC (eU f ⟨#[]⟩ 0 [] ⟨#[]⟩) (hsP none 0)) PkT))
 clear p;have p:=aW aT.o;by_cases hE:E=0;rotate_left
 ·have t:Hid (km v f s=(pk0,E)):=aa (by unfold km;rw[Fl (λx=>by rw[HK.o]at x;cases x),Fl (λx=>x HC.o),HU.o,if_pos hE]);have e1:(E !=0)=true:=aA.2 hE;clear hE;go_wp2;refine abZ (aI rfl _ rfl (cO aT.o _ _)) rfl ?_;exact YY t.o (YQ aM.o aM.o.size (ac _) _ _)
 subst hE;obtain⟨X,hX⟩:∃X,s.extract N s.size=X:=⟨_,rfl⟩;have ai:=aa (TQ HK.o HC.o HU.o hX L.o.1);have ab:Hid (X.size<=140737488351232):=aa (by rw[<-hX,aj];have:=HS.o;omega);have aS:=aa (Uk (v:=v) (f:=f) (T:=T) (X:=X) (by have:=L.o.2;have:=HS.o;omega) ab.o);have n0:(0:Int)<=(N:Int):=by omega
 have n1:(N:Int)<=(s.size:Int):=by have:=L.o.1;omega
 have aC:(pkC (eU f ⟨#[]⟩ 0 [] ⟨#[]⟩) (hsP none 0)).setIfInBounds 5 (.string T)=pkC (eU f T 0 [] ⟨#[]⟩) (hsP none 0):=rfl;have aZ:=aa aC;have P1:=aa (Bk.fresh y PkT (pkC (eU f T 0 [] ⟨#[]⟩) (hsP none 0)));have aN:=aa (B.o.alloc B.o.size (.cells (pkC (eU f T 0 [] ⟨#[]⟩) (hsP none 0)) PkT));have aU:=aa (G.o.alloc (.cells (pkC (eU f T 0 [] ⟨#[]⟩) (hsP none 0)) PkT))
 have aO:Hid (w.heap.size<y.heap.size):=aa G.o.lt;clear p aC;go_wp2_with fail;rw[aZ.o];refine(QN X _ (by have:=ab.o;omega)).mono ?_;rintro e w3 ⟨rfl,ay,d⟩;have aD:(y.alloc (.cells (pkC (eU f T 0 [] ⟨#[]⟩) (hsP none 0)) PkT)).heap.size=y.heap.size+1:=by simp
 have Q0:Hid (QR w y.heap.size (y.heap.size+1) f T 0 [] ⟨#[]⟩ none 0 X 0 0 w3):=aa
  ⟨Yf aN.o d,Yh aU.o d,Yh P1.o d,Rd.nil _ _ _ _,ac _,aO.o,by rw[<-aD];exact ay,by omega,by have:=aO.o;omega⟩
 rw[aD];clear ay d aD bf;have q3:w3.cell? ⟨y.heap.size,3,none⟩=some (.int .i64 (f/ 2% 4)):=Q0.o.pk.cell 3;generalize y.heap.size=g at*;by_cases h0:f/ 2% 4=0
 focus
  have q0:decide ((0:Int)<f/ 2% 4)=false:=ah (by omega);have H:Hid (rN f X=(0,0,0)):=aa (by unfold rN;rw[Fl (λx=>x h0)]);clear h0;have ak:Hid (rP v f X=QK v 3 X 0 0):=aa (by unfold rP;rw[H.o]);go_wp2_with fail;refine(QD v 3 (g+1) 0 X 0 _ Q0.o.cur ab.o).mono ?_;rintro u x1 ⟨A,c,rfl,n,D,a,b⟩;rw[<-ak.o]at n D a⊢;have q:=aa (SH v f X);have M:Hid (rY v f X=(aH X (rP v f X).2.1 (rP v f X).2.2 ((X.size- (rP v f X).2.1:Nat):Int)).1):=aa rfl;have r:=aa (Sr (SH v f X) (rP v f X).2.2);have j:Hid (rQ v f T X=eU f T (0:Int) (rP v f X).1 (rY v f X)):=aa (by unfold rQ;rw[H.o];first| done| rfl);have F:Hid (rE v f T X=if(rP v f X).2.2=0 then ii v (rQ v f T X)else(rP v f X).2.2):=aa rfl;generalize rP v f X=R at*;obtain⟨l,C,o⟩:=R;simp only at n D a q M r j F⊢;have Q2:=aa ((Q0.o.turn a b).put D n);have Q1:=aa (Q0.o.turn a b);have aw:=Q1.o.pk.free 24;have J:=Q1.o.pk.cell 24;rw[bR]at J;clear n D a b q3 q0;go_wp2_with fail;refine Yg (Qy (g+1) C X o _ Q2.o.cur) λx2 d=>?_;have Q3:=aa (Q2.o.below d);clear d aw J
  go_wp2_with fail;refine(QY (g+1) C X o _ _ Q3.o.cur).mono ?_;rintro u x3 ⟨rfl,a,b⟩;rw[<-M.o];rw[r.o]at a;obtain⟨Y,I⟩:∃Y,rY v f X=Y:=⟨_,rfl⟩;rw[I]at j⊢;have O:=aa (Q3.o.turn a b);have P:=aa (O.o.set 6 (.string Y) (i':=(0:Int)) (t':=T) (u':=Y) rfl);generalize (aH X C o ((X.size- C:Nat):Int)).2.1=a3 at*;have f6:=O.o.pk.free 6;have p6:=O.o.pk.cell 6;rw[dA]at p6;clear a b I M r q;have hl:=cf P.o.pk;have K:Hid (PkOk (eU f T (0:Int) l Y)):=aa (by rw[<-j.o];exact aS.o);go_wp2_with fail;refine Yg (IW v (eU f T (0:Int) l Y) (hsP A c) _ P.o.into K.o) λx4 d=>?_;have Q6:=aa (P.o.below d);clear d hl f6 p6
  go_wp2_with fail;refine(Qv (g+1) a3 X o _ _ Q6.o.cur).mono ?_;rintro u x5 ⟨rfl,a,b⟩;have i:=aa (Q6.o.turn a b);clear a b;obtain⟨⟨d0,d1,d2⟩,-⟩:=i.o.cur.cells;have V:Hid (rE v f T X=if o=0 then ii v (eU f T (0:Int) l Y)else o):=aa (by rw[F.o,j.o]);have p:=aW i.o.res;rw[<-V.o]at d2;by_cases k:rE v f T X=0
  ·have t:Hid (km v f s=(eU f T (0:Int) l Y,0)):=aa (by rw[ai.o,Fl (λx=>x k),j.o]);rw[k]at d2;have bg:=cf i.o.pk;clear k;go_wp2;refine abZ (aI rfl _ rfl (cO i.o.res _ _)) rfl ?_;exact fo t.o i.o.some.2.2 i.o.some.1
  rotate_left
 rotate_left
 focus
  have q0:decide ((0:Int)<f/ 2% 4)=true:=au (by omega);have aX:Hid (rN f X=(br X 0 0 2,(aH X 0 0 2).2.1,(aH X 0 0 2).2.2)):=aa (by unfold rN;rw[if_pos h0]);clear h0;go_wp2_with fail;refine(Qz (g+1) 0 X 0 2 _ Q0.o.cur (by decide)).mono ?_;rintro u w4 ⟨rfl,a,b⟩;have aP:=aa (gU X 0 0 (ag _));obtain⟨m,aB⟩:∃m,br X 0 0 2=m:=⟨_,rfl⟩;obtain⟨a1,ax⟩:∃a1,(aH X 0 0 2).2.1=a1:=⟨_,rfl⟩;obtain⟨e1,az⟩:∃e1,(aH X 0 0 2).2.2=e1:=⟨_,rfl⟩;rw[ax,az]at a;rw[aB]at aP⊢;have H:Hid (rN f X=(m,a1,e1)):=aa (by rw[aX.o,aB,ax,az]);have bA:IntKind.i64.wrap (m:Int)=(m:Int):=by rw[aQ];have:=aP.o;omega
  have T0:=aa (Q0.o.turn a b);have T1:=aa (T0.o.set 4 (.int .i64 m) (i':=(m:Int)) (t':=T) (u':=⟨#[]⟩) rfl);have f4:=T0.o.pk.free 4;have p4:=T0.o.pk.cell 4;rw[dj]at p4;clear a b aB ax az q3 q0;have ak:Hid (rP v f X=QK v 3 X a1 e1):=aa (by unfold rP;rw[H.o]);go_wp2_with fail;refine(QD v 3 (g+1) a1 X e1 _ T1.o.cur ab.o).mono ?_;rintro u x1 ⟨A,c,rfl,n,D,a,b⟩;rw[<-ak.o]at n D a⊢;have q:=aa (SH v f X);have M:Hid (rY v f X=(aH X (rP v f X).2.1 (rP v f X).2.2 ((X.size- (rP v f X).2.1:Nat):Int)).1):=aa rfl;have r:=aa (Sr (SH v f X) (rP v f X).2.2);have j:Hid (rQ v f T X=eU f T (m:Int) (rP v f X).1 (rY v f X)):=aa (by unfold rQ;rw[H.o];first| done| rfl);have F:Hid (rE v f T X=if(rP v f X).2.2=0 then ii v (rQ v f T X)else(rP v f X).2.2):=aa rfl;generalize rP v f X=R at*;obtain⟨l,C,o⟩:=R;simp only at n D a q M r j F⊢;have Q2:=aa ((T1.o.turn a b).put D n);have Q1:=aa (T1.o.turn a b);have aw:=Q1.o.pk.free 24;have J:=Q1.o.pk.cell 24;rw[bR]at J;clear n D a b f4 p4;go_wp2_with fail;refine Yg (Qy (g+1) C X o _ Q2.o.cur) λx2 d=>?_;have Q3:=aa (Q2.o.below d);clear d aw J
  go_wp2_with fail;refine(QY (g+1) C X o _ _ Q3.o.cur).mono ?_;rintro u x3 ⟨rfl,a,b⟩;rw[<-M.o];rw[r.o]at a;obtain⟨Y,I⟩:∃Y,rY v f X=Y:=⟨_,rfl⟩;rw[I]at j⊢;have O:=aa (Q3.o.turn a b);have P:=aa (O.o.set 6 (.string Y) (i':=(m:Int)) (t':=T) (u':=Y) rfl);generalize (aH X C o ((X.size- C:Nat):Int)).2.1=a3 at*;have f6:=O.o.pk.free 6;have p6:=O.o.pk.cell 6;rw[dA]at p6;clear a b I M r q;have hl:=cf P.o.pk;have K:Hid (PkOk (eU f T (m:Int) l Y)):=aa (by rw[<-j.o];exact aS.o);go_wp2_with fail;refine Yg (IW v (eU f T (m:Int) l Y) (hsP A c) _ P.o.into K.o) λx4 d=>?_;have Q6:=aa (P.o.below d);clear d hl f6 p6
  go_wp2_with fail;refine(Qv (g+1) a3 X o _ _ Q6.o.cur).mono ?_;rintro u x5 ⟨rfl,a,b⟩;have i:=aa (Q6.o.turn a b);clear a b;obtain⟨⟨d0,d1,d2⟩,-⟩:=i.o.cur.cells;have V:Hid (rE v f T X=if o=0 then ii v (eU f T (m:Int) l Y)else o):=aa (by rw[F.o,j.o]);have p:=aW i.o.res;rw[<-V.o]at d2;by_cases k:rE v f T X=0
  ·have t:Hid (km v f s=(eU f T (m:Int) l Y,0)):=aa (by rw[ai.o,Fl (λx=>x k),j.o]);rw[k]at d2;have bg:=cf i.o.pk;clear k;go_wp2;refine abZ (aI rfl _ rfl (cO i.o.res _ _)) rfl ?_;exact fo t.o i.o.some.2.2 i.o.some.1
  rotate_left
 rotate_left
 all_goals
  have t:Hid (km v f s=(pk0,rE v f T X)):=aa (by rw[ai.o,if_pos k]);generalize rE v f T X=E3 at*;have e9:(E3 !=0)=true:=aA.2 k;clear k;go_wp2_with fail;have bq:(zc (.pointer (some ⟨w.heap.size,0,none⟩)) (pkV pk0 hs0)).run prog x5.drew= .ok () (dE x5.drew w.heap.size pk0 hs0):=aW (i.o.res.drewN 1) pk0 hs0;have bw:(dE x5.drew w.heap.size pk0 hs0).cell? ⟨g+1,2,none⟩=some (.int .i64 E3):=by
   have bx:=i.o.cb;have be:=(i.o.cur.1.drewN 1).mods (S:=λz=>z=w.heap.size) (qb (cJ (x5.drewN 1) w.heap.size pk0 hs0) rfl) (by omega);have:=be.cell 2;rw[<-V.o]at this;exact this
  clear p
  go_region_law (fail)
  all_goals
   go_wp2;refine abZ (aI rfl _ rfl (cO (i.o.res.drewN 1) _ _)) rfl ?_;exact YY t.o (YQ (aV i.o.kept 1) (aV i.o.kept 1).size (ac _) _ _)
end
def Ih(v k:Int):Bool:=decide (k=12\/k=13\/(k=14/\v=4))
theorem PL(h:jR v k=0):(12<=k/\k<=15)/\(v=4\/v=5)/\¬(k=15/\v=4):=by
 unfold jR at h;split at h
 ·cases h
 ·next h1=>
  split at h
  ·cases h
  ·next h2=>
   refine⟨?_,aU.1 λx=>h1 (.inr x),h2⟩;exact aR (show decide (12<=k/\k<=15)=true from by
    cases e:decide (12<=k/\k<=15)
    ·exact absurd (.inl e) h1
    ·rfl)
theorem Jk(h:jR v k=0):Ih v k= !fO v k:=by
 obtain⟨a,b,d⟩:=PL h;unfold Ih fO;by_cases c:(k=14\/k=15)/\v=5
 ·rw[au c];exact ah (by omega)
 ·rw[ah c];exact au (by omega)
theorem ON(v:Int)(p:Pk):fH v p=if jR v p.kind≠0 then jR v p.kind
  else if p≠conQ v p\/(Ih v p.kind=false/\may p.kind p.code=false)then 2 else GI v p.kind p.props:=by
 unfold fH;by_cases c:jR v p.kind≠0
 ·rw[if_pos c,if_pos c]
 rw[Fl c,Fl c];have f:=aU.1 c;have d:=Jk f;by_cases a:fO v p.kind=true/\may p.kind p.code=false
 ·rw[if_pos a,if_pos (.inr ⟨by rw[d,a.1];rfl,a.2⟩)]
 rw[Fl a];by_cases b:p≠conQ v p
 ·rw[if_pos b,if_pos (.inl b)]
 rw[Fl b,Fl,Ir]
 ·intro j;have h:fO v p.kind=false:=ah (λx=>by omega);have i:conQ v p=aP p.kind 0 0 []:=by unfold conQ;rw[Fl (by rw[h];decide)]
  have g:=aU.1 b;rw[i]at g;have:p.props=[]:=congrArg Pk.props g;rw[this];rfl
 ·rintro (x| ⟨x,y⟩)
  ·exact b x
  ·refine a ⟨?_,y⟩;rw[d]at x;cases e:fO v p.kind
   ·rw[e]at x;cases x
   ·rfl
theorem MD(h:fH v p=0)(hp:Ih v p.kind=true):Yq v p=([],0):=by
 have g:=Ap h;have c:fO v p.kind=false:=by
  have:=Jk g.k;rw[hp]at this;cases e:fO v p.kind
  ·rfl
  ·rw[e]at this;cases this
 obtain⟨a,b⟩:=g.old c;unfold Yq;rw[if_pos h,g.tail];unfold oG;rw[if_pos ⟨a,by rw[b];rfl⟩]
theorem MY(c k:Int)(l:List Pr):(⟨(xV c l k).toArray⟩:abO)=if c<0\/255<c\/(aM k l).2≠0 then⟨#[]⟩else Ia 5 k c l:=by
 unfold xV Ia;split
 ·rfl
 ·rw[if_pos rfl]
def QJ(v k:Int)(s:abO):Int×List Pr×Nat×Int:=if Ih v k=true then(0,[],0,0)else Qu v k s 0 0
def Rr(v k:Int)(s:abO):Pk:=aP k 0 (QJ v k s).1 (QJ v k s).2.1
theorem SQ(hk:jR v k=0):gX v k s=Qx (Rr v k s) s (QJ v k s).2.2.1 (QJ v k s).2.2.2 (fH v (Rr v k s)):=by
 have b:=Jk hk;unfold gX;rw[Fl (λx=>x hk)];cases c:fO v k
 ·rw[c]at b;have d:QJ v k s=(0,[],0,0):=by unfold QJ;rw[if_pos (by rw[b];rfl)]
  have h:Rr v k s=fN v k s:=by unfold Rr fN fA;rw[d,c];rfl
  have f:(fA v k s).2.2=Rj s 0 0:=by
   unfold fA Rj;rw[c,Fl (by decide)];show(if s.size≠0 then(5:Int)else 0)=if(0:Int)≠0 then 0 else if 0<s.size then 5 else 0;by_cases j:s.size=0
   ·rw[Fl (λx=>x j),Fl (by decide),Fl (by omega)]
   ·rw[if_pos j,Fl (by decide),if_pos (by omega)]
  rw[Rb,h,d,f]
 ·rw[c]at b;have m:v=5:=(aR (show decide ((k=14\/k=15)/\v=5)=true from c)).2;have d:QJ v k s=Qu v k s 0 0:=by unfold QJ;rw[Fl (by rw[b];decide)]
  have g:=Sx (k:=k) (t:=s) (a:=0) (ag _);rw[<-m]at g;have h:Rr v k s=aP k 0 (dg k s 0).1 (dg k s 0).2.1:=by unfold Rr;rw[d,g.1,g.2.1]
  have f:pK k s=Rj s (dg k s 0).2.2.1 (dg k s 0).2.2.2:=rfl;have l:∀p x,Qx p s (QJ v k s).2.2.1 (QJ v k s).2.2.2 x=Qx p s (dg k s 0).2.2.1 (dg k s 0).2.2.2 x:=λp x=>by unfold Qx;rw[d,g.2.2]
  rw[l,Rb,h];unfold fN fA;rw[c,if_pos rfl];by_cases e:pK k s=0
  ·have i:iO k s=((dg k s 0).1,(dg k s 0).2.1,0):=by unfold iO;rw[Fl (λx=>x e)]
   rw[i,<-f,e]
  ·have i:iO k s=(0,[],pK k s):=by unfold iO;rw[if_pos e]
   rw[i,<-f];simp only;rw[if_pos e,if_pos e]
theorem Sa(hs:s.size<=140737488351232):(∀p∈(QJ v k s).2.1,qc p)/\(QJ v k s).2.1.length<=1000:=by
 unfold QJ;split
 ·exact⟨λq a=>(nomatch a),ag _⟩
 ·exact Rc hs
theorem SU(hs:s.size<=140737488351232):PkOk (Rr v k s):=
 iw (Sa hs).1 (aC (Sa hs).2 (by decide))
