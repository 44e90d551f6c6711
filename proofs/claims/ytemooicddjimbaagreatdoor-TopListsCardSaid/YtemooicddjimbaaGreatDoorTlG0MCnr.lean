/- Parts: MCnr, RfX. -/
import Derived.Test.YtemooicddjimbaaGreatDoorTlG0Rlm
import Derived.Test.YtemooicddjimbaaGreatDoorTlG0MRft
set_option maxRecDepth 10000
set_option maxHeartbeats 8000000
namespace Go.Proofs.YtemooicddjimbaaGreatDoor
open Go.RowKit Go.Proofs.Tryz
section
attribute [local go_sem ↓] bD bF bH bI bu
attribute [local go_sem] bc aD bh bg bK bJ bd aY be aO ax cI dC dB dt dj di dA dr dp dn bW co YK bZ YM cz cy cw cu YL YP YB bS bP bR
theorem MS(b:Bool)(n:Int)(w:World):Calls prog 123 #[.bool b,.int .i64 n] w fun e w'=>e= .returned (.int .i64 (pc b n))/\w=w':=by
 cases b
 ·go_enter func123,ntmps123;go_wp2;go_ret;exact⟨rfl,rfl⟩
 ·go_enter func123,ntmps123;go_wp2;go_ret;exact⟨rfl,rfl⟩
theorem Nz(A B C D E q:Int)(hA:0<=A/\A<=128)(hB:0<=B/\B<=64)(hC:0<=C/\C<=32)(hD:0<=D/\D<=4)(hE:0<=E/\E<=2):
  wrap64 (wrap64 (wrap64 (wrap64 (wrap64 (A+B)+C)+wrap64 ((wrap64 (q.tmod 4+4)).tmod 4*8))+D)+E)=A+B+C+q% 4*8+D+E:=by
 have e:=Int.tmod_lt_of_pos q (b:=4) (by decide);have f:=Int.lt_tmod_of_pos q (b:=4) (by decide);have g:=Int.mul_tdiv_add_tmod q 4;generalize q.tdiv 4=d at*;generalize q.tmod 4=t at*;have a:wrap64 (t+4)=t+4:=by simp only[wrap64];omega
 rw[a,QP (by omega)];have c:(t+4) % 4=q% 4:=by omega
 rw[c];simp only[wrap64];omega
theorem KE(p:Pk)(h:Hs)(w:World):
  Calls prog 126 #[pkV p h] w fun e w'=>e= .returned (.int .i64 (flQ p))/\Below w.heap.size w w':=by
 have o:=aa ((aq w.heap.size w).alloc (ac _) (.cells (pkC p h) PkT));have a:=Bk.fresh w PkT (pkC p h);have U:=(a.cell 0).trans (cI _ _);have E:=(a.cell 7).trans (dr _ _);have i:=(a.cell 10).trans (bW _ _);have j:=(a.cell 12).trans (YK _ _);have k:=(a.cell 14).trans (YM _ _);have l:=(a.cell 17).trans (cw _ _);have m:=(a.cell 18).trans (cu _ _)
 have r:Hid (flQ p=if p.kind=1 then pc p.hasUser 128+pc p.hasPass 64+pc p.will.retain 32+p.will.qos% 4*8+pc p.hasWill 4+pc p.clean 2 else 0):=aa rfl;clear a;go_enter func126,ntmps126
 by_cases c:p.kind=1
 rotate_left
 ·have S:(p.kind !=1)=true:=aA.2 c;have s:Hid (flQ p=0):=aa (by rw[r.o,Fl c]);clear c;go_wp2;go_ret;exact⟨by rw[s.o];rfl,o.o⟩
 have S:(p.kind !=1)=false:=by rw[c];rfl
 have s:Hid (flQ p=pc p.hasUser 128+pc p.hasPass 64+pc p.will.retain 32+p.will.qos% 4*8+pc p.hasWill 4+pc p.clean 2):=aa (by rw[r.o,if_pos c]);clear c r;have f:∀b n,0<=n->0<=pc b n/\pc b n<=n:=fun b n X=>by unfold pc;split<;>omega
 have K:=aa (f p.hasUser 128 (by decide));have L:=aa (f p.hasPass 64 (by decide));have M:=aa (f p.will.retain 32 (by decide));have N:=aa (f p.hasWill 4 (by decide));have O:=aa (f p.clean 2 (by decide))
 clear f
 go_wp2_with fail
 generalize T:w.alloc (.cells (pkC p h) PkT)=W at*;clear T;have q:=fun(b:Bool) (n:Int)=>jw (W:=W) (fun x _=>(MS b n x).mono (fun e w' C=>⟨C.1,C.2▸aq _ _⟩));have F:=q p.hasUser 128;have G:=q p.hasPass 64;have H:=q p.will.retain 32;have I:=q p.hasWill 4;have J:=q p.clean 2
 have R:=cell_regrown E;have u:=cell_regrown i;have v:=cell_regrown j;have y:=cell_regrown k;have z:=cell_regrown l;have A:=cell_regrown m
 have g:=aa (fun d V=>o.o.trans ((below_regrown W d V).mono o.o.size));clear q U E i j k l m;refine wp_region_quiet_below (by as_aux_lemma=>kernel_rfl) (by as_aux_lemma=>kernel_rfl) ?_
 repeat (go_big_quiet_step (first| with_reducible exact F _ _| with_reducible exact G _ _| with_reducible exact H _ _| with_reducible exact I _ _| with_reducible exact J _ _))
 refine kE ?_;intro _ D;obtain⟨⟨B,osq⟩,t⟩:=D;subst t;have Q:=aa (g.o B osq);clear F G H I J R u v y z A g;generalize Sort.grow (redrawn _ B) osq=wq at*;have P:=aa (Nz _ _ _ _ _ p.will.qos K.o L.o M.o N.o O.o);go_wp2;go_ret;exact⟨by rw[s.o,<-P.o];rfl,Q.o⟩
theorem He(s:ByteArray)(w:World)(hs:s.size<=65535):
  Calls prog 125 #[.string s] w fun e w'=>e= .returned (.string (qE s))/\Below w.heap.size w w':=by
 have a:Hid (qE s=cQ s):=aa (if_pos hs);go_enter func125,ntmps125
 go_wp2_with fail
 refine Yg (Hw s _ hs) fun c b=>?_;go_wp2;go_ret;exact⟨by rw[a.o];rfl,b⟩
attribute [local go_sem ↓high] bu sD sE
attribute [local go_sem ↓] wh
attribute [local go_sem] Cv BD mX pU pB py
theorem NX(k:Int)(b:Bool)(c:Int)(l:List Pr)(A:Option Addr)(n:Nat)(w:World):(qP #[(0,.int .i64 k),(16,.bool b),(17,.int .i64 c),(20,.slice A l.length n)]).run prog w= .ok (pkV {pk0 with kind:=k,props:=l,session:=b,code:=c} {hs0 with props:=⟨A,n⟩}) w:=by kernel_rfl
theorem NW(k:Int)(c:Bool)(a:Int)(s:ByteArray)(u p o:Bool)(l:List Pr)(A:Option Addr)(n:Nat)(w:World):(qP #[(0,.int .i64 k),(7,.bool c),(8,.int .i64 a),(9,.string s),(10,.bool u),(12,.bool p),(14,.bool o),(20,.slice A l.length n)]).run prog w= .ok (pkV {pk0 with kind:=k,props:=l,clean:=c,alive:=a,client:=s,hasUser:=u,hasPass:=p,hasWill:=o} {hs0 with props:=⟨A,n⟩}) w:=by kernel_rfl
theorem LK(v:Int)(p:Pk)(h:Hs)(w:World):
  Calls prog 182 #[.int .i64 v,pkV p h] w fun e w'=>e= .returned (pkV (kS p) (qJ p h))/\Below w.heap.size w w':=by
 have l:=ic w (.cells (pkC p h) PkT) (.cells (pkC pk0 hs0) PkT);have s:Bk ((w.alloc (.cells (pkC p h) PkT)).alloc (.cells (pkC pk0 hs0) PkT)) w.heap.size PkT (pkC p h):=(Bk.fresh w PkT (pkC p h)).alloc _;have t:Bk ((w.alloc (.cells (pkC p h) PkT)).alloc (.cells (pkC pk0 hs0) PkT)) (w.heap.size+1) PkT (pkC pk0 hs0):=by
  have:=Bk.fresh (w.alloc (.cells (pkC p h) PkT)) PkT (pkC pk0 hs0);rwa[show(w.alloc (.cells (pkC p h) PkT)).heap.size=w.heap.size+1 by simp]at this
 have f:((w.alloc (.cells (pkC p h) PkT)).alloc (.cells (pkC pk0 hs0) PkT)).heap.size=w.heap.size+2:=by simp
 generalize hW:(w.alloc (.cells (pkC p h) PkT)).alloc (.cells (pkC pk0 hs0) PkT)=W at l s t f;have m:=aa l;have D:=aa s;have z:=aa t;have Y:=aa f
 clear l s t;have k1:=fun i=>D.o.cell i;have st:=fun q k=>aW z.o q k;have X:=NX p.kind p.session p.code p.props h.props.a h.props.c;have L:=NW p.kind p.clean p.alive p.client p.hasUser p.hasPass p.hasWill p.props h.props.a h.props.c
 by_cases d:p.kind=2
 ·have T:(p.kind==2)=true:=aK.2 d;have M:Hid (qJ p h= {hs0 with props:=h.props}):=aa (by unfold qJ;rw[Fl (fun y=>y.1 d)];rfl);have N:Hid (kS p= {pk0 with kind:=p.kind,props:=p.props,session:=p.session,code:=p.code}):=aa (qI d);clear d L f;go_enter func182,ntmps182;go_wp2;refine av (fz rfl _ rfl (cO z.o _ _)) rfl ?_;rw[M.o,N.o];exact⟨rfl,YQ m.o m.o.size (IT _) _ _⟩
 ·have T:(p.kind==2)=false:=ar.2 d;have E:=aa d;have P:Hid (qJ p h= {hs0 with props:=h.props,wp:=(if p.hasWill=true then h.wp else hd0)}):=aa (by
   unfold qJ
   by_cases o:p.hasWill=true
   ·rw[if_pos ⟨d,o⟩,if_pos o]
   ·rw[Fl (fun y=>o y.2),Fl o])
  have u:=Bk.fresh W PkT (pkC pk0 hs0);rw[f]at u;have r:w.heap.size+2<(W.alloc (.cells (pkC pk0 hs0) PkT)).heap.size:=u.lt;have g:Bk (W.alloc (.cells (pkC pk0 hs0) PkT)) w.heap.size PkT (pkC p h):=D.o.alloc _;have j:Bk (W.alloc (.cells (pkC pk0 hs0) PkT)) (w.heap.size+1) PkT (pkC pk0 hs0):=z.o.alloc _;have A:Below w.heap.size w (W.alloc (.cells (pkC pk0 hs0) PkT)):=m.o.alloc m.o.size _;have C:∀q k,(zc (.pointer (some ⟨w.heap.size+2,0,none⟩)) (pkV q k)).run prog (W.alloc (.cells (pkC pk0 hs0) PkT))= .ok () (pw (W.alloc (.cells (pkC pk0 hs0) PkT)) (w.heap.size+2) (pkC q k)):=fun q k=>by
   have G:=ax W pk0 q hs0 k;have d:pw (W.alloc (.cells (pkC pk0 hs0) PkT)) (w.heap.size+2) (pkC q k)=W.alloc (.cells (pkC q k) PkT):=by
    have J:(pw (W.alloc (.cells (pkC pk0 hs0) PkT)) W.heap.size (pkC q k))=W.alloc (.cells (pkC q k) PkT):=by
     have U:(W.heap.push (.cells (pkC pk0 hs0) PkT (0,0))).setIfInBounds W.heap.size (.cells (pkC q k) PkT (0,0))=W.heap.push (.cells (pkC q k) PkT (0,0)):=by
      apply Il;intro i;rw[Array.getElem?_push]
      by_cases n:W.heap.size=i
      ·subst n;simp
      ·rw[eK n,Array.getElem?_push,Fl (fun e=>n e.symm),Fl (fun e=>n e.symm)]
     exact congrArg (fun x=>{W with heap:=x}) U
    rw[f]at J;exact J
   rw[f]at G;rw[d];exact G
  generalize hV:W.alloc (.cells (pkC pk0 hs0) PkT)=V at r g j A C;have R:=aa g;have S:=aa j;have NB:=aa A;have Z:=aa r
  clear g j A u d X;have f1:∀b,Bk (pw V (w.heap.size+2) b) w.heap.size PkT (pkC p h):=fun b=>(uv V (w.heap.size+2) b (by omega)).trans R.o;have j1:=fun b=>(f1 b).cell;have jl:=fun b=>Gj (f1 b);clear f1;have K:Hid (∀b,Bk (pw V (w.heap.size+2) b) (w.heap.size+1) PkT (pkC pk0 hs0)):=aa (fun b=>(uv V (w.heap.size+2) b (by omega)).trans S.o);have js:=fun b q k=>aW (K.out b) q k;have F:Hid (∀b,Below w.heap.size w (pw V (w.heap.size+2) b)):=aa (fun b=>BC V (w.heap.size+2) b NB.o (by omega));go_enter func182,ntmps182;cases B:p.hasWill<;>cases H:p.hasUser<;>cases I:p.hasPass
  all_goals
   have Q:=aa (vJ E.o B H I);have O:=aa B;rw[B,H,I]at L;go_wp2;refine av (fz rfl _ rfl (cO (K.out _) _ _)) rfl ?_;refine⟨?_,YQ (F.o _) (F.o _).size (IT _) _ _⟩;rw[Q.o];rw[P.o,O.o];rfl
theorem LU{b:Bool}{p:Pk}(hn:b=decide (0<=p.alive/\p.alive<65536/\0<=p.will.qos/\p.will.qos<=2)):
   (¬0<=p.alive/\b=false)\/(0<=p.alive/\¬p.alive<65536/\b=false)\/(0<=p.alive/\p.alive<65536/\¬0<=p.will.qos/\b=false)\/(0<=p.alive/\p.alive<65536/\0<=p.will.qos/\b=decide (p.will.qos<=2)):=by
 rw[hn]
 by_cases a:0<=p.alive
 ·by_cases c:p.alive<65536
  ·by_cases d:0<=p.will.qos
   ·exact .inr (.inr (.inr ⟨a,c,d,eb.2 ⟨fun y=>y.2.2.2,fun y=>⟨a,c,d,y⟩⟩⟩))
   ·exact .inr (.inr (.inl ⟨a,c,d,ah (fun y=>d y.2.2.1)⟩))
  ·exact .inr (.inl ⟨a,c,ah (fun y=>c y.2.1)⟩)
 ·exact .inl ⟨a,ah (fun y=>a y.1)⟩
theorem KH(v:Int)(p:Pk)(h:Hs)(w:World)(ip:PkIn w w.heap.size p h)(ok:PkOk p):
  Calls prog 108 #[.int .i64 v,pkV p h] w fun e w'=>e= .returned (.bool (kT v p))/\Below w.heap.size w w':=by
 have OK:=aa ok;have s:=aa ((St.start w).push ip);have U:(w.alloc (.cells (pkC p h) PkT)).heap.size=w.heap.size+1:=by simp
 generalize hW:w.alloc (.cells (pkC p h) PkT)=W at s U;have HZ:=aa U;clear U
 have X:Hid (kT v p=(YG v&&(gm p.kind&&(decide (p=kS p)&&dU v p)))):=aa rfl;have r:Hid (dU v p=if v=4/\0<p.props.length+p.will.props.length then false
  else if p.kind=2 then i9 v p&&(decide (p.code=0) || !p.session)
  else if v=4/\((p.client.size=0/\p.clean=false)\/(p.hasPass=true/\p.hasUser=false))then false
  else decide (0<=p.alive/\p.alive<65536/\0<=p.will.qos/\p.will.qos<=2)):=aa rfl
 have Q:=kR p.client;have C:=jw (W:=W) (fun x c=>(pS v x).mono (by rintro e w' ⟨rfl,rfl⟩;exact⟨rfl,aq _ _⟩));have M:=jw (W:=W) (fun x c=>LK v p h x);have H:=jw (W:=W) (fun x c=>GP p (kS p) h (qJ p h) x ((s.o.below c).into 0 rfl) (E6 ((s.o.below c).into 0 rfl)) OK.o.len (Dl OK.o.len));have G:=cell_regrown (show W.cell? ⟨w.heap.size,0,none⟩=some (.int .i64 p.kind)from s.o.cell 0 rfl 0);have l0:=qp (s.o.bk 0 rfl);have o:Hid (∀d os,Below W.heap.size W (Sort.grow (redrawn W d) os)):=aa (fun d os=>below_regrown W d os);clear ip ok;go_enter func108,ntmps108;cases D:YG v
 focus
  rw[D]at C;have a:Hid (kT v p=false):=aa (by rw[X.o,D,YH]);clear D
 rotate_left;rw[D]at C;have HV:Hid (v=4\/v=5):=aa (aR D);have N:Hid (kT v p=(gm p.kind&&(decide (p=kS p)&&dU v p))):=aa (by rw[X.o,D,aL]);clear D X;cases E:gm p.kind
 focus
  have a:Hid (kT v p=false):=aa (by rw[N.o,E,YH]);have n1:(p.kind !=1)=true:=aA.2 (fun y=>by have:=Gy E;exact this (.inl y));have n2:(p.kind !=2)=true:=aA.2 (fun y=>by have:=Gy E;exact this (.inr y));clear E
 rotate_left;have HO:=aa (aR E);have I:Hid (kT v p=(decide (p=kS p)&&dU v p)):=aa (by rw[N.o,E,aL]);clear E N;obtain⟨sm,T⟩:∃b:Bool,decide (p=kS p)=b:=⟨_,rfl⟩;rw[T]at H;have J:=aa T;clear T
 by_cases A:p.kind=2
 focus
  have n1:(p.kind !=1)=true:=aA.2 (by omega);have n2:(p.kind !=2)=false:=by simp[A]
  have e2:(p.kind==2)=true:=aK.2 A;have K:=aa A;clear A;cases sm
  focus
   have a:Hid (kT v p=false):=aa (by rw[I.o,J.o,YH])
  rotate_left;have i:Hid (kT v p=dU v p):=aa (by rw[I.o,J.o,aL])
  go_wp2_with fail
  refine wp_region_quiet_below (by kernel_rfl) (by kernel_rfl) ?_
  repeat (go_big_quiet_step (first| with_reducible exact C _ _| with_reducible exact M _ _| with_reducible exact H _ _))
  refine kE ?_;intro _ B;obtain⟨⟨z,osq⟩,n⟩:=B;subst n;have f:=aa (s.o.below (o.o z osq));clear C M H G l0 o;generalize Sort.grow (redrawn _ z) osq=wq at*;have G:=f.o.cell 0 rfl;rcases HV.o with g| g
  ·have e4:(v==4)=true:=aK.2 g;have e5:(v==5)=false:=ar.2 (by omega)
   by_cases hp:0<p.props.length
   ·have a:Hid (kT v p=false):=aa (by rw[i.o,r.o,if_pos ⟨g,by omega⟩]);clear g;go_wp2;go_ret;exact⟨by rw[a.o];rfl,f.o.kept⟩
   by_cases hw:0<p.will.props.length
   ·have a:Hid (kT v p=false):=aa (by rw[i.o,r.o,if_pos ⟨g,by omega⟩]);clear g;go_wp2;go_ret;exact⟨by rw[a.o];rfl,f.o.kept⟩
   have l:¬(v=4/\0<p.props.length+p.will.props.length):=fun y=>by omega
   have j:Hid (kT v p=(ww p.code&&(decide (p.code=0) || !p.session))):=aa (by rw[i.o,r.o,Fl l,if_pos K.o];unfold i9;rw[if_pos g]);clear g l
   go_wp2_with fail
   refine Yg (KD p.code _) fun w3 V=>?_;subst V;have t:=f;cases k:ww p.code
   ·have a:Hid (kT v p=false):=aa (by rw[j.o,k];rfl);clear k;go_wp2;go_ret;exact⟨by rw[a.o];rfl,t.o.kept⟩
   by_cases F:p.session=true
   ·have a:Hid (kT v p=decide (p.code=0)):=aa (by rw[j.o,k,F];simp);clear k;have hd:decide (p.code=0)=(p.code==0):=by rfl
    go_wp2;go_ret;exact⟨by rw[a.o];first| rfl| simp,t.o.kept⟩
   ·have S:p.session=false:=by simpa using F
    have a:Hid (kT v p=true):=aa (by rw[j.o,k,S];simp);clear k F;go_wp2;go_ret;exact⟨by rw[a.o];rfl,t.o.kept⟩
  ·have e4:(v==4)=false:=ar.2 (by omega);have e5:(v==5)=true:=aK.2 g;have l:¬(v=4/\0<p.props.length+p.will.props.length):=fun y=>by omega
   have j:Hid (kT v p=(may 2 p.code&&(decide (p.code=0) || !p.session))):=aa (by rw[i.o,r.o,Fl l,if_pos K.o];unfold i9;rw[Fl (fun y=>by omega),K.o]);clear g l
   go_wp2_with fail
   refine Yg (Ht 2 p.code _) fun w3 V=>?_;have t:=aa (f.o.below V);clear V G
   have G:=t.o.cell 0 rfl;cases k:may 2 p.code
   ·have a:Hid (kT v p=false):=aa (by rw[j.o,k];rfl);clear k;go_wp2;go_ret;exact⟨by rw[a.o];rfl,t.o.kept⟩
   by_cases F:p.session=true
   ·have a:Hid (kT v p=decide (p.code=0)):=aa (by rw[j.o,k,F];simp);clear k;have hd:decide (p.code=0)=(p.code==0):=by rfl
    go_wp2;go_ret;exact⟨by rw[a.o];first| rfl| simp,t.o.kept⟩
   ·have S:p.session=false:=by simpa using F
    have a:Hid (kT v p=true):=aa (by rw[j.o,k,S];simp);clear k F;go_wp2;go_ret;exact⟨by rw[a.o];rfl,t.o.kept⟩
 rotate_left
 focus
  have n1:(p.kind !=1)=false:=by have:p.kind=1:=HO.o.resolve_right A;simp[this]
  have e2:(p.kind==2)=false:=ar.2 A;have K:=aa A;clear A;cases sm
  focus
   have a:Hid (kT v p=false):=aa (by rw[I.o,J.o,YH])
  rotate_left;have i:Hid (kT v p=dU v p):=aa (by rw[I.o,J.o,aL])
  go_wp2_with fail
  refine wp_region_quiet_below (by kernel_rfl) (by kernel_rfl) ?_
  repeat (go_big_quiet_step (first| with_reducible exact C _ _| with_reducible exact M _ _| with_reducible exact H _ _))
  refine kE ?_;intro _ B;obtain⟨⟨z,osq⟩,n⟩:=B;subst n;have f:=aa (s.o.below (o.o z osq));clear C M H G l0 o;generalize Sort.grow (redrawn _ z) osq=wq at*;have G:=f.o.cell 0 rfl;rcases HV.o with g| g
  ·have e4:(v==4)=true:=aK.2 g;have e5:(v==5)=false:=ar.2 (by omega)
   by_cases hp:0<p.props.length
   ·have a:Hid (kT v p=false):=aa (by rw[i.o,r.o,if_pos ⟨g,by omega⟩]);clear g;go_wp2;go_ret;exact⟨by rw[a.o];rfl,f.o.kept⟩
   by_cases hw:0<p.will.props.length
   ·have a:Hid (kT v p=false):=aa (by rw[i.o,r.o,if_pos ⟨g,by omega⟩]);clear g;go_wp2;go_ret;exact⟨by rw[a.o];rfl,f.o.kept⟩
   have l:¬(v=4/\0<p.props.length+p.will.props.length):=fun y=>by omega
   have j:Hid (kT v p=if v=4/\((p.client.size=0/\p.clean=false)\/(p.hasPass=true/\p.hasUser=false))then false
    else decide (0<=p.alive/\p.alive<65536/\0<=p.will.qos/\p.will.qos<=2)):=aa (by rw[i.o,r.o,Fl l,Fl K.o])
   have H4:=aa g;clear g l
   by_cases L:p.client.size=0/\p.clean=false
   ·have a:Hid (kT v p=false):=aa (j.o.trans (if_pos ⟨H4.o,.inl L⟩));obtain⟨an,aH⟩:=L;rw[au an]at Q;go_wp2;go_ret;exact⟨by rw[a.o];rfl,f.o.kept⟩
   by_cases R:p.hasPass=true/\p.hasUser=false
   ·have a:Hid (kT v p=false):=aa (j.o.trans (if_pos ⟨H4.o,.inr R⟩));obtain⟨aI,aJ⟩:=R;clear L;go_wp2
    all_goals
     go_ret;exact⟨by rw[a.o];rfl,f.o.kept⟩
   have Y:=aa (LU (j.o.trans (Fl (fun y=>y.2.elim L R))));have Z:((p.client.toList.isEmpty=true/\p.clean=true)\/p.client.toList.isEmpty=false)/\((p.hasPass=true/\p.hasUser=true)\/p.hasPass=false):=by
    rw[Q]
    constructor
    ·by_cases P:p.client.size=0
     ·cases c1:p.clean
      ·exact absurd ⟨P,c1⟩ L
      ·exact .inl ⟨au P,rfl⟩
     ·exact .inr (ah P)
    ·cases P:p.hasPass
     ·exact .inr rfl
     ·cases c1:p.hasUser
      ·exact absurd ⟨P,c1⟩ R
      ·exact .inl ⟨rfl,rfl⟩
   clear L R Q;obtain⟨Z1,Z2⟩:=Z;rcases Z1 with ⟨z1,z2⟩ | z1<;>rcases Z2 with ⟨z3,z4⟩ | z3
   all_goals
    rcases Y.o with ⟨q,c⟩ | ⟨q,m,c⟩ | ⟨q,m,O,c⟩ | ⟨q,m,O,c⟩
    ·have a:=aa c;have ak:p.alive<0:=by omega
     clear c q;go_wp2;go_ret;exact⟨by rw[a.o];rfl,f.o.kept⟩
    ·have a:=aa c;have u:¬p.alive<=65535:=by omega
     clear c m;go_wp2;go_ret;exact⟨by rw[a.o];rfl,f.o.kept⟩
    ·have a:=aa c;have u:p.alive<=65535:=by omega
     have am:p.will.qos<0:=by omega
     clear c m O;go_wp2;go_ret;exact⟨by rw[a.o];rfl,f.o.kept⟩
    ·have a:=aa c;have u:p.alive<=65535:=by omega
     clear c m;go_wp2;go_ret;exact⟨by rw[a.o];rfl,f.o.kept⟩
  ·have e4:(v==4)=false:=ar.2 (by omega);have e5:(v==5)=true:=aK.2 g;have l:¬(v=4/\0<p.props.length+p.will.props.length):=fun y=>by omega
   have j:Hid (kT v p=if v=4/\((p.client.size=0/\p.clean=false)\/(p.hasPass=true/\p.hasUser=false))then false
    else decide (0<=p.alive/\p.alive<65536/\0<=p.will.qos/\p.will.qos<=2)):=aa (by rw[i.o,r.o,Fl l,Fl K.o])
   have Y:=aa (LU (j.o.trans (Fl (fun y=>by omega))));clear g l;rcases Y.o with ⟨q,c⟩ | ⟨q,m,c⟩ | ⟨q,m,O,c⟩ | ⟨q,m,O,c⟩
   ·have a:=aa c;have ak:p.alive<0:=by omega
    clear c q;go_wp2;go_ret;exact⟨by rw[a.o];rfl,f.o.kept⟩
   ·have a:=aa c;have u:¬p.alive<=65535:=by omega
    clear c m;go_wp2;go_ret;exact⟨by rw[a.o];rfl,f.o.kept⟩
   ·have a:=aa c;have u:p.alive<=65535:=by omega
    have am:p.will.qos<0:=by omega
    clear c m O;go_wp2;go_ret;exact⟨by rw[a.o];rfl,f.o.kept⟩
   ·have a:=aa c;have u:p.alive<=65535:=by omega
    clear c m;go_wp2;go_ret;exact⟨by rw[a.o];rfl,f.o.kept⟩
 rotate_left
 all_goals
  go_wp2_with fail
  refine wp_region_quiet_below (by kernel_rfl) (by kernel_rfl) ?_
  repeat (go_big_quiet_step (first| with_reducible exact C _ _| with_reducible exact M _ _| with_reducible exact H _ _))
  refine kE ?_;intro _ B;obtain⟨⟨z,osq⟩,n⟩:=B;subst n;have f:=aa (s.o.below (o.o z osq));clear C M H G l0 o;generalize Sort.grow (redrawn _ z) osq=wq at*;go_wp2;go_ret;exact⟨by rw[a.o];rfl,f.o.kept⟩
end
section
attribute [local go_sem ↓] bD bF bH bI bu
attribute [local go_sem] bc aD bh bg bK bJ bd aY be aO ax cI dC dB dt dj di dA dr dp dn bW co YK bZ YM cz cy cw cu YL YP YB bS bP bR
theorem Ic(v:Int)(p:Pk)(h:Hs)(w:World)(ip:PkIn w w.heap.size p h)(ok:PkOk p):
  Calls prog 74 #[.int .i64 v,pkV p h] w fun e w'=>e= .returned (.int .i64 (eR v p))/\Below w.heap.size w w':=by
 have f:=aa ok;have t:=aa ((St.start w).push ip);have G:Hid (eR v p=if kT v p=false then 2
  else if YF p.client=false\/YF p.user=false then 6
  else if p.hasWill=true/\fp p.will.topic=false then 10
  else if 65535<p.will.payload.size\/65535<p.pass.size then 2
  else if(aM p.kind p.props).2≠0 then(aM p.kind p.props).2
  else(aM 16 p.will.props).2):=aa rfl
 have J:Hid (kT v p=(YG v&&(gm p.kind&&(decide (p=kS p)&&dU v p)))):=aa rfl;have s:=t.o.cell 0 rfl;have O:=t.o.ld 0 rfl;clear ip ok;go_enter func74,ntmps74
 go_wp2_with fail
 refine Yg (KH v p h _ (t.o.into 0 rfl) f.o) fun R g=>?_;have D:=aa (t.o.below g);clear g s O
 have s:=D.o.cell 0 rfl;cases q:kT v p
 ·have d:Hid (eR v p=2):=aa (by rw[G.o,if_pos q]);clear q;go_wp2;go_ret;exact⟨by rw[d.o];rfl,D.o.kept⟩
 have H:Hid (GI v p.kind p.props=(aM p.kind p.props).2/\GI v 16 p.will.props=(aM 16 p.will.props).2):=aa (by
  have F:dU v p=true:=by
   have:=J.o.symm.trans q;simp only[eh]at this;exact this.2.2.2
  have Q:¬(v=4/\0<p.props.length+p.will.props.length):=fun y=>by
   unfold dU at F;rw[if_pos y]at F;cases F
  exact⟨Ir (fun y=>by omega),Ir (fun y=>by omega)⟩)
 have l:Hid (eR v p=if YF p.client=false\/YF p.user=false then 6
  else if p.hasWill=true/\fp p.will.topic=false then 10
  else if 65535<p.will.payload.size\/65535<p.pass.size then 2
  else if(aM p.kind p.props).2≠0 then(aM p.kind p.props).2
  else(aM 16 p.will.props).2):=aa (by rw[G.o,Fl (by rw[q];decide)])
 clear q
 go_wp2_with fail
 refine(xj p.client _ (by have:=f.o.texts;omega)).mono ?_;rintro e S ⟨rfl,rfl⟩;have I:=D;cases o:YF p.client
 ·have d:Hid (eR v p=6):=aa (by rw[l.o,if_pos (.inl o)]);clear o;go_wp2;go_ret;exact⟨by rw[d.o];rfl,I.o.kept⟩
 go_wp2_with fail
 refine(xj p.user _ (by have:=f.o.texts;omega)).mono ?_;rintro e T ⟨rfl,rfl⟩;have E:=I;cases x:YF p.user
 ·have d:Hid (eR v p=6):=aa (by rw[l.o,if_pos (.inr x)]);clear o x;go_wp2;go_ret;exact⟨by rw[d.o];rfl,E.o.kept⟩
 have m:Hid (eR v p=if p.hasWill=true/\fp p.will.topic=false then 10
  else if 65535<p.will.payload.size\/65535<p.pass.size then 2
  else if(aM p.kind p.props).2≠0 then(aM p.kind p.props).2
  else(aM 16 p.will.props).2):=aa (by rw[l.o,Fl (fun y=>y.elim (fun z=>by rw[o]at z;cases z) (fun z=>by rw[x]at z;cases z))])
 clear o x;obtain⟨N,C⟩:∃b,p.hasWill=b:=⟨_,rfl⟩;cases N
 focus
  have j:Hid (eR v p=if 65535<p.will.payload.size\/65535<p.pass.size then 2
   else if(aM p.kind p.props).2≠0 then(aM p.kind p.props).2
   else(aM 16 p.will.props).2):=aa (by rw[m.o,Fl (fun y=>by rw[C]at y;cases y.1)])
  have i:=E
 rotate_left
 focus
  go_wp2_with fail
  refine(Hg p.will.topic _ (by have:=f.o.texts;omega)).mono ?_;rintro e U ⟨rfl,rfl⟩;have i:=E;cases u:fp p.will.topic
  ·have d:Hid (eR v p=10):=aa (by rw[m.o,if_pos ⟨C,u⟩]);clear u;go_wp2;go_ret;exact⟨by rw[d.o];rfl,i.o.kept⟩
  have j:Hid (eR v p=if 65535<p.will.payload.size\/65535<p.pass.size then 2
   else if(aM p.kind p.props).2≠0 then(aM p.kind p.props).2
   else(aM 16 p.will.props).2):=aa (by rw[m.o,Fl (fun y=>by rw[u]at y;cases y.2)])
  clear u
 rotate_left
 all_goals
  by_cases r:65535<p.will.payload.size
  ·have L:(65535:Int)<(p.will.payload.size:Int):=by omega
   have d:Hid (eR v p=2):=aa (by rw[j.o,if_pos (.inl r)]);clear r;go_wp2;go_ret;exact⟨by rw[d.o];rfl,i.o.kept⟩
  have L:(p.will.payload.size:Int)<=65535:=by omega
  by_cases A:65535<p.pass.size
  ·have M:(65535:Int)<(p.pass.size:Int):=by omega
   have d:Hid (eR v p=2):=aa (by rw[j.o,if_pos (.inr A)]);clear r A;go_wp2;go_ret;exact⟨by rw[d.o];rfl,i.o.kept⟩
  have M:(p.pass.size:Int)<=65535:=by omega
  have B:Hid (eR v p=if(aM p.kind p.props).2≠0 then(aM p.kind p.props).2 else(aM 16 p.will.props).2):=aa (by rw[j.o,Fl (fun y=>y.elim r A)]);clear r A
  go_wp2_with fail
  refine Yg (Gx v p.kind p.props _ rfl f.o.props h.props.a h.props.c _ (i.o.into 0 rfl).props f.o.len.2.2.2 (i.o.into 0 rfl).caps.2.2.2) fun V g=>?_;rw[H.o.1];have n:=aa (i.o.below g);clear g s
  have s:=n.o.cell 0 rfl
  by_cases k:(aM p.kind p.props).2=0
  rotate_left
  ·have P:((aM p.kind p.props).2 !=0)=true:=aA.2 k;have d:Hid (eR v p=(aM p.kind p.props).2):=aa (by rw[B.o,if_pos k]);clear k;go_wp2;go_ret;exact⟨by rw[d.o];rfl,n.o.kept⟩
  rw[k];have d:Hid (eR v p=(aM 16 p.will.props).2):=aa (by rw[B.o,Fl (fun y=>y k)]);clear k
  go_wp2_with fail
  refine Yg (Gx v 16 p.will.props _ rfl f.o.wp h.wp.a h.wp.c _ (n.o.into 0 rfl).wp f.o.len.1 (n.o.into 0 rfl).caps.1) fun W g=>?_;rw[H.o.2];have K:=aa (n.o.below g);clear g s
  go_wp2;go_ret;exact⟨by rw[d.o];rfl,K.o.kept⟩
theorem ML(v k:Int)(l:List Pr):Hq v k l=tW v k l:=rfl
theorem Wv{x:World}{g:Nat}(a b:UInt8)(hb:Bk x g 5 #[.int .u8 (a.toNat:Int),.int .u8 (b.toNat:Int)]):(convert 77 9 (.slice (some ⟨g,0,none⟩) 2 2)).run prog x= .ok (.string ⟨#[a,b]⟩) x:=
 ni 77 9 5 underlying77 underlying5 underlying9 2 (B:=x.heap.size) (l:=[a,b]) ⟨rfl,.inr ⟨g,0,rfl,hb.lt,fun j u c=>by rw[bV,hb.cell,ay];exact c⟩⟩
theorem KJ(v:Int)(p:Pk)(h:Hs)(w:World)(ip:PkIn w w.heap.size p h)(ok:PkOk p)(h2:p.kind=2):
  Calls prog 79 #[.int .i64 v,pkV p h] w fun e w'=>e= .returned (.tuple #[.string (Fg v p).1,.int .i64 (Fg v p).2])/\Below w.heap.size w w':=by
 have q:=aa ok;have r:=aa ((St.start w).push ip);have C:Hid (Fg v p=if eR v p=0 then(vP v p,0)else(⟨#[]⟩,eR v p)):=aa rfl;have D:Hid (vP v p=qK [⟨#[if p.session=true then 1 else 0]⟩,⟨(Yk p.code.toNat 1).toArray⟩,tW v p.kind p.props]):=aa rfl;have N:=r.o.ld 0 rfl;have B:=aa h2;clear ip ok h2;go_enter func79,ntmps79
 go_wp2_with fail
 refine Yg (Ic v p h _ (r.o.into 0 rfl) q.o) fun m l=>?_;have s:=aa (r.o.below l);clear l N
 by_cases j:eR v p=0
 rotate_left
 ·have W:(eR v p !=0)=true:=aA.2 j;have o:Hid (Fg v p=(⟨#[]⟩,eR v p)):=aa (by rw[C.o,Fl j]);clear j;go_wp2;go_ret2;exact⟨by rw[o.o];rfl,s.o.kept⟩
 have o:Hid (Fg v p=(vP v p,0)):=aa (by rw[C.o,if_pos j]);have H:=Av j B.o;have n:=aa (Jr v p.kind p.props);obtain⟨b0,F,U⟩:∃b:UInt8,Hid ((⟨#[if p.session=true then 1 else 0]⟩:ByteArray)=⟨#[b]⟩)/\IntKind.u8.wrap (pc p.session 1)=(b.toNat:Int):=by
  cases p.session
  ·exact⟨0,aa rfl,rfl⟩
  ·exact⟨1,aa rfl,rfl⟩
 obtain⟨b1,G,V⟩:∃b:UInt8,Hid (Yk p.code.toNat 1=[b])/\IntKind.u8.wrap p.code=(b.toNat:Int):=by
  refine⟨UInt8.ofNat p.code.toNat,aa (by simp[Yk]),?_⟩;rw[GM];simp[UInt8.toNat_ofNat'];omega
 rw[j];have t:=aa (fun(x:World) M L=>G5 v p.kind p.props _ rfl q.o.props h.props.a h.props.c x M q.o.len.2.2.2 L);obtain⟨T,A⟩:∃T,tW v p.kind p.props=T:=⟨_,rfl⟩;rw[F.out,G.out,A]at D;have E:Hid (vP v p=⟨#[b0,b1]⟩++T):=aa (by
  rw[D.o];refine eX ?_;simp[qK,ls])
 simp only[ML]at t;rw[A]at t n;have S:¬(9223372036854775807<2+T.size):=by have:=n.o;omega
 have R:(⟨#[b0,b1]⟩:ByteArray).size=2:=rfl;have J:=(s.o.cell 0 rfl 0).trans (cI _ _);rw[B.o]at J;clear j H A
 go_wp2_with fail
 clear J
 go_cut [4,5] (fun a b P=>a= .string (⟨#[b0,b1]⟩++T)/\b= .int .i64 0/\St w [(w.heap.size,p,h)] P)
 case first=>
  have i:Hid (∀x,Below m.heap.size m x->St w [(w.heap.size,p,h)] x):=aa (fun x d=>s.o.below d);have f:Hid (∀x,Below m.heap.size m x->x.cell? ⟨w.heap.size,20,none⟩=some (.bool p.session)/\x.cell? ⟨w.heap.size,21,none⟩=some (.int .i64 p.code)/\x.cell? ⟨w.heap.size,0,none⟩=some (.int .i64 p.kind)/\x.cell? ⟨w.heap.size,24,none⟩=some (.slice h.props.a p.props.length h.props.c)):=aa (fun x d=>⟨((i.o x d).cell 0 rfl 20).trans (YP _ _),((i.o x d).cell 0 rfl 21).trans (YB _ _),((i.o x d).cell 0 rfl 0).trans (cI _ _),((i.o x d).cell 0 rfl 24).trans (bR _ _)⟩);apply Wq
  ·kernel_rfl
  ·intro O
   repeat (apply Wk
           focus (refine Or.inl ⟨rfl,fun x d=>?_⟩;have k:=f.o x d;go_simp;(try with_reducible rfl);done)
           try simp only[Act.put,af,am,ak])
   apply Wm (fun x d _=>(MS p.session 1 x).mono fun e y h=>⟨h.1,by rw[<-h.2];exact aq _ _⟩)
   ·rfl
   ·intro x d;have k:=f.o x d;go_simp
   repeat (apply Wk
           focus (refine Or.inl ⟨rfl,fun x d=>?_⟩;have k:=f.o x d;go_simp;(try with_reducible rfl);done)
           try simp only[Act.put,af,am,ak])
   apply Wy (fun u y=>∃g,u= .slice (some ⟨g,0,none⟩) 2 2/\Bk y g 5 #[.int .u8 (b0.toNat:Int),.int .u8 (b1.toNat:Int)]) (fun u x y h l=>by obtain⟨g,z,h2⟩:=h;exact⟨g,z,Yh h2 l⟩)
   ·rfl
   ·intro x d _;refine⟨_,_,?_,⟨x.heap.size,rfl,Bk.fresh x _ _⟩,(aq x.heap.size x).alloc (ac _) (.cells #[.int .u8 (b0.toNat:Int),.int .u8 (b1.toNat:Int)] 5)⟩;go_simp
   apply WD (v:=.string ⟨#[b0,b1]⟩)
   ·rfl
   ·intro x d K;obtain⟨g,z,h2⟩:=(show ∃g,O 7= .slice (some ⟨g,0,none⟩) 2 2/\Bk x g 5 #[.int .u8 (b0.toNat:Int),.int .u8 (b1.toNat:Int)]from K 7 (by kernel_rfl));rw[z];have Q:=Wv b0 b1 h2;go_simp
   repeat (apply Wk
           focus (refine Or.inl ⟨rfl,fun x d=>?_⟩;have k:=f.o x d;go_simp;(try with_reducible rfl);done)
           try simp only[Act.put,af,am,ak])
   apply Wm (fun x d _=>t.o x ((i.o x d).into 0 rfl).props ((i.o x d).into 0 rfl).caps.2.2.2)
   ·rfl
   ·intro x d;have k:=f.o x d;go_simp
   repeat (apply Wk
           focus (refine Or.inl ⟨rfl,fun x d=>?_⟩;have k:=f.o x d;go_simp;(try with_reducible rfl);done)
           try simp only[Act.put,af,am,ak])
   apply Wz;intro x d _;go_wp2
   go_meet
   case rel=>exact⟨rfl,rfl,i.o x d⟩
  ·kernel_rfl
 obtain⟨rfl,rfl,I⟩:=hcut;go_wp2;go_ret2;refine⟨?_,I.kept⟩;rw[o.o,E.o];rfl
theorem LI(n:Int)(h:0<=n/\n<256):∃b:UInt8,Hid (Yk n.toNat 1=[b])/\IntKind.u8.wrap n=(b.toNat:Int):=by
 refine⟨UInt8.ofNat n.toNat,aa (by simp[Yk]),?_⟩;rw[GM];simp[UInt8.toNat_ofNat'];omega
theorem Jl(a b:ByteArray):qK [a,b]=a++b:=by refine eX ?_;simp[qK,ls]
theorem Nt:qE ⟨#[77,81,84,84]⟩=i8:=by decide+kernel
theorem ZM(v:Int)(p:Pk)(h:Hs)(w:World)(ip:PkIn w w.heap.size p h)(ok:PkOk p)(h2:p.kind≠2):
  Calls prog 79 #[.int .i64 v,pkV p h] w fun e w'=>e= .returned (.tuple #[.string (if eR v p=0 then(EY v p,(0:Int))else(⟨#[]⟩,eR v p)).1,.int .i64 (if eR v p=0 then(EY v p,(0:Int))else(⟨#[]⟩,eR v p)).2])/\Below w.heap.size w w':=by
 have OK:=aa ok;have S0:=aa ((St.start w).push ip);obtain⟨B,hB⟩:∃B,(if eR v p=0 then(EY v p,(0:Int))else(⟨#[]⟩,eR v p))=B:=⟨_,rfl⟩;rw[hB];have HE:=aa hB.symm;have l0:=S0.o.ld 0 rfl;have H2:=aa h2;clear ip ok h2 hB;go_enter func79,ntmps79
 go_wp2_with fail
 refine Yg (Ic v p h _ (S0.o.into 0 rfl) OK.o) fun w1 l=>?_;have S1:=aa (S0.o.below l);clear l l0
 by_cases U:eR v p=0
 rotate_left
 ·have e0:(eR v p !=0)=true:=aA.2 U;have J:Hid (B=(⟨#[]⟩,eR v p)):=aa (by rw[HE.o,Fl U]);clear U;go_wp2;go_ret2;exact⟨by rw[J.o];rfl,S1.o.kept⟩
 have J:Hid (B=(EY v p,0)):=aa (by rw[HE.o,if_pos U]);have HG:=aa (OO U H2.o);have HP:=aa (mM U);rw[U];obtain⟨b0,bx,bE⟩:=LI v (by have:=HG.o.2.1;omega);obtain⟨FQ,aD⟩:∃FQ,flQ p=FQ:=⟨_,rfl⟩;have aV:Hid (flN p=FQ):=aa (by rw[<-aD];exact(if_pos HG.o.1).symm);have FF:Hid (∀x:World,Calls prog 126 #[pkV p h] x fun e w'=>e= .returned (.int .i64 FQ)/\Below x.heap.size x w'):=aa (fun x=>by rw[<-aD];exact KE p h x);clear aD;obtain⟨b1,bz,bF⟩:=LI FQ (by rw[<-aV.o];exact NA p);obtain⟨an,aZ,bG⟩:∃m:Nat,Hid (p.alive.toNat=m)/\IntKind.u64.wrap p.alive=(m:Int):=⟨_,aa rfl,by rw[iZ];have:=HG.o.2.2;omega⟩;have br:Hid (an<65536):=aa (by have:=aZ.out;have:=HG.o.2.2;omega);have L:=aa (Jr v p.kind p.props);have ah:=aa (G9 p.client);have ai:Hid (yK v p=qK [i8,⟨(Yk v.toNat 1).toArray⟩,⟨(Yk (flN p).toNat 1).toArray⟩,⟨(Yk p.alive.toNat 2).toArray⟩,tW v p.kind p.props,qE p.client]):=aa rfl;rw[aV.o,aZ.out,bx.out,bz.out]at ai;have TT:=aa (fun(x:World) hr hc=>G5 v p.kind p.props _ rfl OK.o.props h.props.a h.props.c x hr OK.o.len.2.2.2 hc);simp only[ML]at TT;have N1:=aa (fun x:World=>He ⟨#[77,81,84,84]⟩ x (by decide));rw[Nt]at N1;have P3:=aa (fun x:World=>GV an 2 x (by have:=br.o;omega) (by omega) (by omega));have D4:=aa (fun x:World=>He p.client x (gL HP.o.2.1.1));rw[show((2:Nat):Int)=2 from rfl]at P3;obtain⟨T,hT⟩:∃T,tW v p.kind p.props=T:=⟨_,rfl⟩;obtain⟨M,hM⟩:∃X,i8=X:=⟨_,rfl⟩;obtain⟨X3,ap⟩:∃X:ByteArray,(⟨(Yk an 2).toArray⟩:ByteArray)=X:=⟨_,rfl⟩;obtain⟨D1,aC⟩:∃X:ByteArray,qE p.client=X:=⟨_,rfl⟩;rw[hT,hM,ap,aC]at ai;rw[hT]at TT L;rw[hM]at N1;rw[ap]at P3;rw[aC]at D4 ah;have ay:X3.size=2:=by rw[<-ap,GW,fM]
 have aW:M.size=6:=by rw[<-hM];rfl
 have HL:=aa aW;have bt:=aa ay
 have ax:Hid (yK v p=M++⟨#[b0,b1]⟩++X3++T++D1):=aa (by
  rw[ai.o];refine eX ?_;simp[qK,ls])
 have A:Hid ((yK v p).size<=131140700):=aa (by
  rw[ax.o];simp only[cK];have:=L.o;have:=ah.o
  show M.size+2+X3.size+T.size+D1.size<=_;omega)
 have bA:(⟨#[b0,b1]⟩:ByteArray).size=2:=rfl;have bB:¬(9223372036854775807<10+T.size):=by have:=L.o;omega
 have bC:¬(9223372036854775807<10+T.size+D1.size):=by have:=L.o;have:=ah.o;omega
 have k0:=(S1.o.cell 0 rfl 0).trans (cI _ _);have e2:(p.kind==2)=false:=ar.2 H2.o;have t:Hid (p.user.size<=65535/\p.pass.size<=65535/\p.will.payload.size<=65535/\(p.hasWill=true->p.will.topic.size<=65535)):=aa ⟨gL HP.o.2.1.2,HP.o.2.2.2.1.2,HP.o.2.2.2.1.1,fun y=>gL (uV (HP.o.2.2.1 y))⟩;clear U hT hM ap aC HP
 go_wp2_with fail
 clear k0
 go_cut [7] (fun a wx=>a= .string (M++⟨#[b0,b1]⟩++X3++T++D1)/\St w [(w.heap.size,p,h)] wx)
 case first=>
  have S:Hid (∀x,Below w1.heap.size w1 x->St w [(w.heap.size,p,h)] x):=aa (fun x i=>S1.o.below i);have n:Hid (∀x,Below w1.heap.size w1 x->(kZ (.pointer (some ⟨w.heap.size,0,none⟩))).run prog x= .ok (pkV p h) x/\x.cell? ⟨w.heap.size,0,none⟩=some (.int .i64 p.kind)/\x.cell? ⟨w.heap.size,8,none⟩=some (.int .i64 p.alive)/\x.cell? ⟨w.heap.size,9,none⟩=some (.string p.client)/\x.cell? ⟨w.heap.size,24,none⟩=some (.slice h.props.a p.props.length h.props.c)):=aa (fun x i=>⟨(S.o x i).ld 0 rfl,((S.o x i).cell 0 rfl 0).trans (cI _ _),((S.o x i).cell 0 rfl 8).trans (dp _ _),((S.o x i).cell 0 rfl 9).trans (dn _ _),((S.o x i).cell 0 rfl 24).trans (bR _ _)⟩);apply Wq
  ·kernel_rfl
  ·intro vs
   repeat (apply Wk
           focus (refine Or.inl ⟨rfl,fun x i=>?_⟩;have F:=n.o x i;go_simp;(try with_reducible rfl);done)
           try simp only[Act.put,af,am,ak])
   apply Wm (fun x i _=>N1.o x)
   ·rfl
   ·intro x i;have F:=n.o x i;go_simp
   repeat (apply Wk
           focus (refine Or.inl ⟨rfl,fun x i=>?_⟩;have F:=n.o x i;go_simp;(try with_reducible rfl);done)
           try simp only[Act.put,af,am,ak])
   apply Wm (fun x i _=>FF.o x)
   ·rfl
   ·intro x i;have F:=n.o x i;go_simp
   repeat (apply Wk
           focus (refine Or.inl ⟨rfl,fun x i=>?_⟩;have F:=n.o x i;go_simp;(try with_reducible rfl);done)
           try simp only[Act.put,af,am,ak])
   apply Wy (fun u y=>∃g,u= .slice (some ⟨g,0,none⟩) 2 2/\Bk y g 5 #[.int .u8 (b0.toNat:Int),.int .u8 (b1.toNat:Int)]) (fun u x y h l=>by obtain⟨g,h1,h2⟩:=h;exact⟨g,h1,Yh h2 l⟩)
   ·rfl
   ·intro x i _;refine⟨_,_,?_,⟨x.heap.size,rfl,Bk.fresh x _ _⟩,(aq x.heap.size x).alloc (ac _) (.cells #[.int .u8 (b0.toNat:Int),.int .u8 (b1.toNat:Int)] 5)⟩;go_simp
   apply WD (v:=.string ⟨#[b0,b1]⟩)
   ·rfl
   ·intro x i hH;obtain⟨g,h1,h2⟩:=(show ∃g,vs 6= .slice (some ⟨g,0,none⟩) 2 2/\Bk x g 5 #[.int .u8 (b0.toNat:Int),.int .u8 (b1.toNat:Int)]from hH 6 (by kernel_rfl));rw[h1];have b9:=Wv b0 b1 h2;go_simp
   repeat (apply Wk
           focus (refine Or.inl ⟨rfl,fun x i=>?_⟩;have F:=n.o x i;go_simp;(try with_reducible rfl);done)
           try simp only[Act.put,af,am,ak])
   apply Wm (fun x i _=>P3.o x)
   ·rfl
   ·intro x i;have F:=n.o x i;go_simp
   repeat (apply Wk
           focus (refine Or.inl ⟨rfl,fun x i=>?_⟩;have F:=n.o x i;go_simp;(try with_reducible rfl);done)
           try simp only[Act.put,af,am,ak])
   apply Wm (fun x i _=>TT.o x ((S.o x i).into 0 rfl).props ((S.o x i).into 0 rfl).caps.2.2.2)
   ·rfl
   ·intro x i;have F:=n.o x i;go_simp
   repeat (apply Wk
           focus (refine Or.inl ⟨rfl,fun x i=>?_⟩;have F:=n.o x i;go_simp;(try with_reducible rfl);done)
           try simp only[Act.put,af,am,ak])
   apply Wm (fun x i _=>D4.o x)
   ·rfl
   ·intro x i;have F:=n.o x i;go_simp
   repeat (apply Wk
           focus (refine Or.inl ⟨rfl,fun x i=>?_⟩;have F:=n.o x i;go_simp;(try with_reducible rfl);done)
           try simp only[Act.put,af,am,ak])
   apply Wz;intro x i _;go_wp2
   go_meet
   case rel=>exact⟨rfl,S.o x i⟩
  ·kernel_rfl
 obtain⟨rfl,a1⟩:=hcut;have C:=aa a1;clear a1 FF TT N1 P3 D4 bE bF bG ay aW bA bB bC e2;rw[<-ax.o];have z:Hid (yJ v p=if p.hasWill=true then qK [yK v p,tW v 16 p.will.props,qE p.will.topic,qE p.will.payload]else yK v p):=aa rfl;have j:Hid (yI v p=if p.hasUser=true then qK [yJ v p,qE p.user]else yJ v p):=aa rfl;have f:Hid (EY v p=if p.hasPass=true then qK [yI v p,qE p.pass]else yI v p):=aa rfl;obtain⟨o,aX⟩:∃O,yK v p=O:=⟨_,rfl⟩;rw[aX]at A z⊢;clear aX ai ax L ah HL bt;have a3:=(C.o.cell 0 rfl 14).trans (YM _ _);obtain⟨wb,a2⟩:∃b,p.hasWill=b:=⟨_,rfl⟩;rw[a2]at a3 z t;clear a2;cases wb
 ·rw[Fl (by decide)]at z;rw[z.o]at j;have uk:=(C.o.cell 0 rfl 10).trans (bW _ _);obtain⟨ub,Y⟩:∃b,p.hasUser=b:=⟨_,rfl⟩;rw[Y]at uk j;clear Y;cases ub
  ·rw[Fl (by decide)]at j;rw[j.o]at f;have H:=(C.o.cell 0 rfl 12).trans (YK _ _);obtain⟨qb,r⟩:∃b,p.hasPass=b:=⟨_,rfl⟩;rw[r]at H f;clear r;cases qb
   ·rw[Fl (by decide)]at f;go_wp2;go_ret2;exact⟨by rw[J.o,f.o];rfl,C.o.kept⟩
   ·rw[if_pos rfl]at f;have qf:=(C.o.cell 0 rfl 13).trans (bZ _ _)
    go_wp2_with fail
    refine Yg (He p.pass _ t.o.2.1) fun yq l=>?_;have bu:=aa (C.o.below l);clear l H qf
    have s:=aa (G9 p.pass);obtain⟨k,q⟩:∃X,qE p.pass=X:=⟨_,rfl⟩;rw[q]at f s⊢;clear q;have qs:¬(9223372036854775807<o.size+k.size):=by have:=A.o;have:=s.out;omega
    have D:Hid ((o++k).size<=131280700):=aa (by rw[cK];have:=A.o;have:=s.out;omega);have G:qK [o,k]=o++k:=Jl _ _;rw[G]at f;clear G;obtain⟨b7,bc⟩:∃O,o++k=O:=⟨_,rfl⟩;rw[bc]at f D;go_wp2;go_ret2;exact⟨by rw[J.o,f.o];rfl,bu.o.kept⟩
  ·rw[if_pos rfl]at j;have uf:=(C.o.cell 0 rfl 11).trans (co _ _)
   go_wp2_with fail
   refine Yg (He p.user _ t.o.1) fun yu l=>?_;have aj:=aa (C.o.below l);clear l uk uf
   have uD:=aa (G9 p.user);obtain⟨I,V⟩:∃X,qE p.user=X:=⟨_,rfl⟩;rw[V]at j uD⊢;clear V;have us:¬(9223372036854775807<o.size+I.size):=by have:=A.o;have:=uD.out;omega
   have E:Hid ((o++I).size<=131210700):=aa (by rw[cK];have:=A.o;have:=uD.out;omega);have uc:qK [o,I]=o++I:=Jl _ _;rw[uc]at j;clear uc;obtain⟨Q,be⟩:∃O,o++I=O:=⟨_,rfl⟩;rw[be]at j E;rw[j.o]at f;have H:=(aj.o.cell 0 rfl 12).trans (YK _ _);obtain⟨qb,r⟩:∃b,p.hasPass=b:=⟨_,rfl⟩;rw[r]at H f;clear r;cases qb
   ·rw[Fl (by decide)]at f;go_wp2;go_ret2;exact⟨by rw[J.o,f.o];rfl,aj.o.kept⟩
   ·rw[if_pos rfl]at f;have qf:=(aj.o.cell 0 rfl 13).trans (bZ _ _)
    go_wp2_with fail
    refine Yg (He p.pass _ t.o.2.1) fun yq l=>?_;have a7:=aa (aj.o.below l);clear l H qf
    have s:=aa (G9 p.pass);obtain⟨k,q⟩:∃X,qE p.pass=X:=⟨_,rfl⟩;rw[q]at f s⊢;clear q;have qs:¬(9223372036854775807<Q.size+k.size):=by have:=E.o;have:=s.out;omega
    have D:Hid ((Q++k).size<=131280700):=aa (by rw[cK];have:=E.o;have:=s.out;omega);have G:qK [Q,k]=Q++k:=Jl _ _;rw[G]at f;clear G;obtain⟨bM,aR⟩:∃O,Q++k=O:=⟨_,rfl⟩;rw[aR]at f D;go_wp2;go_ret2;exact⟨by rw[J.o,f.o];rfl,a7.o.kept⟩
 ·rw[if_pos rfl]at z;have N:Hid ((tW v 16 p.will.props).size<=131075004/\(qE p.will.topic).size<=65537/\(qE p.will.payload).size<=65537):=aa ⟨Jr _ _ _,G9 _,G9 _⟩;have q0:∀(d:Nat) (os:Array Obj),Calls prog 124 #[.int .i64 v,.int .i64 16,.slice h.wp.a p.will.props.length h.wp.c] (Sort.grow (redrawn wc d) os) fun e bK=>e= .returned (.string (tW v 16 p.will.props))/\∃p:Regrown,bK=Sort.grow (redrawn wc p.d) p.os:=jw (fun x i=>G5 v 16 p.will.props _ rfl OK.o.wp h.wp.a h.wp.c x ((C.o.below i).into 0 rfl).wp OK.o.len.1 ((C.o.below i).into 0 rfl).caps.1);have q1:=jw (W:=wc) (fun x i=>He p.will.topic x (t.o.2.2.2 rfl));have q2:=jw (W:=wc) (fun x i=>He p.will.payload x t.o.2.2.1);obtain⟨WT,aG⟩:∃X,tW v 16 p.will.props=X:=⟨_,rfl⟩;obtain⟨WA,aE⟩:∃X,qE p.will.topic=X:=⟨_,rfl⟩;obtain⟨WB,aF⟩:∃X,qE p.will.payload=X:=⟨_,rfl⟩;rw[aG,aE,aF]at z N;rw[aG]at q0;rw[aE]at q1;rw[aF]at q2;have bJ:=cell_regrown (show wc.cell? ⟨w.heap.size,19,none⟩=some (.slice h.wp.a p.will.props.length h.wp.c)from(C.o.cell 0 rfl 19).trans (YL _ _));have bH:=cell_regrown (show wc.cell? ⟨w.heap.size,15,none⟩=some (.string p.will.topic)from(C.o.cell 0 rfl 15).trans (cz _ _));have bI:=cell_regrown (show wc.cell? ⟨w.heap.size,16,none⟩=some (.string p.will.payload)from(C.o.cell 0 rfl 16).trans (cy _ _));have z1:¬(9223372036854775807<o.size+WT.size):=by have:=A.o;have:=N.o;omega
  have z2:¬(9223372036854775807<o.size+WT.size+WA.size):=by have:=A.o;have:=N.o;omega
  have z3:¬(9223372036854775807<o.size+WT.size+WA.size+WB.size):=by have:=A.o;have:=N.o;omega
  have aU:Hid (∀d os,Below wc.heap.size wc (Sort.grow (redrawn wc d) os)):=aa (fun d os=>below_regrown wc d os);clear aG aE aF
  go_wp2_with fail
  refine wp_region_quiet_below (by kernel_rfl) (by kernel_rfl) ?_
  repeat (go_big_quiet_step (first| with_reducible exact q0 _ _| with_reducible exact q1 _ _| with_reducible exact q2 _ _))
  refine kE ?_;intro _ bD;obtain⟨⟨dq,osq⟩,bh⟩:=bD;subst bh;have Z:=aa (C.o.below (aU.o dq osq));clear q0 q1 q2 bJ bH bI aU a3 z1 z2 z3;generalize Sort.grow (redrawn _ dq) osq=wq at*;have P:Hid ((o++WT++WA++WB).size<=262346900):=aa (by simp only[cK];have:=A.o;have:=N.o;omega);have a0:qK [o,WT,WA,WB]=o++WT++WA++WB:=by refine eX ?_;simp[qK,ls]
  rw[a0]at z;clear a0;obtain⟨K,aY⟩:∃O,o++WT++WA++WB=O:=⟨_,rfl⟩;rw[aY]at z P⊢;clear aY;rw[z.o]at j;have uk:=(Z.o.cell 0 rfl 10).trans (bW _ _);obtain⟨ub,Y⟩:∃b,p.hasUser=b:=⟨_,rfl⟩;rw[Y]at uk j;clear Y;cases ub
  ·rw[Fl (by decide)]at j;rw[j.o]at f;have H:=(Z.o.cell 0 rfl 12).trans (YK _ _);obtain⟨qb,r⟩:∃b,p.hasPass=b:=⟨_,rfl⟩;rw[r]at H f;clear r;cases qb
   ·rw[Fl (by decide)]at f;go_wp2;go_ret2;exact⟨by rw[J.o,f.o];rfl,Z.o.kept⟩
   ·rw[if_pos rfl]at f;have qf:=(Z.o.cell 0 rfl 13).trans (bZ _ _)
    go_wp2_with fail
    refine Yg (He p.pass _ t.o.2.1) fun yq l=>?_;have bv:=aa (Z.o.below l);clear l H qf
    have s:=aa (G9 p.pass);obtain⟨k,q⟩:∃X,qE p.pass=X:=⟨_,rfl⟩;rw[q]at f s⊢;clear q;have qs:¬(9223372036854775807<K.size+k.size):=by have:=P.o;have:=s.out;omega
    have D:Hid ((K++k).size<=262486900):=aa (by rw[cK];have:=P.o;have:=s.out;omega);have G:qK [K,k]=K++k:=Jl _ _;rw[G]at f;clear G;obtain⟨b8,bd⟩:∃O,K++k=O:=⟨_,rfl⟩;rw[bd]at f D;go_wp2;go_ret2;exact⟨by rw[J.o,f.o];rfl,bv.o.kept⟩
  ·rw[if_pos rfl]at j;have uf:=(Z.o.cell 0 rfl 11).trans (co _ _)
   go_wp2_with fail
   refine Yg (He p.user _ t.o.1) fun yu l=>?_;have ao:=aa (Z.o.below l);clear l uk uf
   have uD:=aa (G9 p.user);obtain⟨I,V⟩:∃X,qE p.user=X:=⟨_,rfl⟩;rw[V]at j uD⊢;clear V;have us:¬(9223372036854775807<K.size+I.size):=by have:=P.o;have:=uD.out;omega
   have E:Hid ((K++I).size<=262416900):=aa (by rw[cK];have:=P.o;have:=uD.out;omega);have uc:qK [K,I]=K++I:=Jl _ _;rw[uc]at j;clear uc;obtain⟨R,bf⟩:∃O,K++I=O:=⟨_,rfl⟩;rw[bf]at j E;rw[j.o]at f;have H:=(ao.o.cell 0 rfl 12).trans (YK _ _);obtain⟨qb,r⟩:∃b,p.hasPass=b:=⟨_,rfl⟩;rw[r]at H f;clear r;cases qb
   ·rw[Fl (by decide)]at f;go_wp2;go_ret2;exact⟨by rw[J.o,f.o];rfl,ao.o.kept⟩
   ·rw[if_pos rfl]at f;have qf:=(ao.o.cell 0 rfl 13).trans (bZ _ _)
    go_wp2_with fail
    refine Yg (He p.pass _ t.o.2.1) fun yq l=>?_;have a8:=aa (ao.o.below l);clear l H qf
    have s:=aa (G9 p.pass);obtain⟨k,q⟩:∃X,qE p.pass=X:=⟨_,rfl⟩;rw[q]at f s⊢;clear q;have qs:¬(9223372036854775807<R.size+k.size):=by have:=E.o;have:=s.out;omega
    have D:Hid ((R++k).size<=262486900):=aa (by rw[cK];have:=E.o;have:=s.out;omega);have G:qK [R,k]=R++k:=Jl _ _;rw[G]at f;clear G;obtain⟨bN,aS⟩:∃O,R++k=O:=⟨_,rfl⟩;rw[aS]at f D;go_wp2;go_ret2;exact⟨by rw[J.o,f.o];rfl,a8.o.kept⟩
theorem Ls(v:Int)(p:Pk)(h:Hs)(w:World)(ip:PkIn w w.heap.size p h)(ok:PkOk p):
  Calls prog 79 #[.int .i64 v,pkV p h] w fun e w'=>e= .returned (.tuple #[.string (Dm v p).1,.int .i64 (Dm v p).2])/\Below w.heap.size w w':=by
 by_cases a:p.kind=2
 ·have b:Dm v p=Fg v p:=if_pos a;rw[b];exact KJ v p h w ip ok a
 ·have b:Dm v p=if eR v p=0 then(EY v p,0)else(⟨#[]⟩,eR v p):=Fl a;rw[b];exact ZM v p h w ip ok a
structure RK (w:World) (g gp gc:Nat) (k i c:Int) (l:List Pr) (A:Option Addr) (n:Nat) (t:ByteArray) (a:Nat) (e:Int) (x:World):Prop where
 kept:Below w.heap.size w x
 res:Bk x g PkT (pkC pk0 hs0)
 pk:Bk x gp PkT (pkC (aP k i c l) {hs0 with props:=⟨A,n⟩})
 cur:IC x gc t a e
 rd:Rd x x.heap.size 4 A l.length (prs l)
 cap:l.length<=n
 ne:g≠gp/\g≠gc/\gp≠gc
 base:w.heap.size<=g/\w.heap.size<=gp/\w.heap.size<=gc
section
variable {w x y:World} {g gp gc:Nat} {k i c:Int} {l:List Pr} {A:Option Addr} {n:Nat} {t:ByteArray} {a a':Nat} {e e':Int}
theorem RK.below(h:RK w g gp gc k i c l A n t a e x)(hb:Below x.heap.size x y):RK w g gp gc k i c l A n t a e y:=
 ⟨Yf h.kept hb,Yh h.res hb,Yh h.pk hb,h.cur.below hb,(h.rd.below hb).wider hb.size,h.cap,h.ne,h.base⟩
theorem RK.turn(h:RK w g gp gc k i c l A n t a e x)(hc:IC y gc t a' e')(hm:x.grownBy y (some gc)):RK w g gp gc k i c l A n t a' e' y:=
 ⟨dw h.kept hm h.kept.size h.base.2.2,h.res.mods (S:=fun z=>z=gc) (Mods.of_grown hm rfl) h.ne.2.1,h.pk.mods (S:=fun z=>z=gc) (Mods.of_grown hm rfl) h.ne.2.2,hc,
  (h.rd.other h.cur.1 (Io _ _ _) hm (ac _)).wider hm.size,h.cap,h.ne,h.base⟩
theorem P6{w:World}{g:Nat}{k i c:Int}{l:List Pr}{A:Option Addr}{n:Nat}(h:Bk w g PkT (pkC (aP k i 0 []) hs0)):Bk ((w.setCell ⟨g,21,.none⟩ (.int .i64 c)).setCell ⟨g,24,.none⟩ (.slice A l.length n)) g PkT (pkC (aP k i c l) {hs0 with props:=⟨A,n⟩}):=
 (h.upd 21 (.int .i64 c) (td k i 0 c [] hs0)).upd 24 _ (uT k i c [] l A n hs0)
theorem RK.put(h:RK w g gp gc k i 0 [] Option.none 0 t a e x){A':Option Addr}{n':Nat}{l':List Pr}{c':Int}(hr:Rd x x.heap.size 4 A' l'.length (prs l'))(hn:l'.length<=n'):
  RK w g gp gc k i c' l' A' n' t a e ((x.setCell ⟨gp,21,.none⟩ (.int .i64 c')).setCell ⟨gp,24,.none⟩ (.slice A' l'.length n')):=by
 have b:=(YR x gp 21 (.int .i64 c')).trans (YR _ gp 24 (.slice A' l'.length n'));exact⟨dw h.kept b h.kept.size h.base.2.1,(h.res.other h.ne.1 _).other h.ne.1 _,P6 h.pk,⟨(h.cur.1.other (Ne.symm h.ne.2.2) _).other (Ne.symm h.ne.2.2) _,h.cur.2⟩,(hr.other h.pk (dY _ _) b (ac _)).wider b.size,hn,h.ne,h.base⟩
theorem RK.stay(h:RK w g gp gc k i c l A n t a e x)(hm:Mods (fun z=>z=gc) x y):PkIn y y.heap.size (aP k i c l) {hs0 with props:=⟨A,n⟩}:=
 PkIn.R1 ((h.rd.other h.cur.1 (Io _ _ _) hm.grown (ac _)).wider hm.size) h.cap k i c
theorem RK.drewN(h:RK w g gp gc k i c l A n t a e x)(m:Nat):RK w g gp gc k i c l A n t a e (x.drewN m):=h.below (aV (aq _ _) m)
theorem RK.done{r:Pk×Int}{kk:Hs}(h:RK w g gp gc k i c l A n t a e x)(_hi:PkIn y y.heap.size r.1 kk)(hm:x.grownBy y (some gc))(hst:∀z,y.grownBy z (some g)->PkIn z z.heap.size r.1 kk):
  Below w.heap.size w (dE y g r.1 kk)/\Bk (dE y g r.1 kk) g PkT (pkC r.1 kk)/\PkIn (dE y g r.1 kk) (dE y g r.1 kk).heap.size r.1 kk:=
 ⟨YQ (dw h.kept hm h.kept.size h.base.2.2) (aC h.kept.size hm.size) h.base.1 _ _,cO (h.res.mods (S:=fun z=>z=gc) (Mods.of_grown hm rfl) h.ne.2.1) _ _,hst _ (cJ _ _ _ _)⟩
theorem RK.into(h:RK w g gp gc k i c l A n t a e x):PkIn x x.heap.size (aP k i c l) {hs0 with props:=⟨A,n⟩}:=PkIn.R1 h.rd h.cap k i c
theorem RK.none(h:RK w g gp gc k i c l A n t a e x):Below w.heap.size w (dE x g pk0 hs0)/\Bk (dE x g pk0 hs0) g PkT (pkC pk0 hs0):=⟨YQ h.kept h.kept.size h.base.1 _ _,cO h.res _ _⟩
theorem RK.some(h:RK w g gp gc k i c l A n t a e x):Below w.heap.size w (dE x g (aP k i c l) {hs0 with props:=⟨A,n⟩})/\Bk (dE x g (aP k i c l) {hs0 with props:=⟨A,n⟩}) g PkT (pkC (aP k i c l) {hs0 with props:=⟨A,n⟩})/\
  PkIn (dE x g (aP k i c l) {hs0 with props:=⟨A,n⟩}) (dE x g (aP k i c l) {hs0 with props:=⟨A,n⟩}).heap.size (aP k i c l) {hs0 with props:=⟨A,n⟩}:=
 ⟨YQ h.kept h.kept.size h.base.1 _ _,cO h.res _ _,PkIn.R1 ((h.rd.other h.res (dY _ _) (cJ _ _ _ _) (ac _)).wider (cJ _ _ _ _).size) h.cap k i c⟩
end
end
end Go.Proofs.YtemooicddjimbaaGreatDoor
