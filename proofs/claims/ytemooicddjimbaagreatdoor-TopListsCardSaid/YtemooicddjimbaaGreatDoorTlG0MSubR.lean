/- Parts: MSubR, RhB. -/
import Derived.Test.YtemooicddjimbaaGreatDoorTlG0MFilE
import Derived.Test.YtemooicddjimbaaGreatDoorTlG0MCns
set_option maxRecDepth 10000
set_option maxHeartbeats 8000000
namespace Go.Proofs.YtemooicddjimbaaGreatDoor
open Go.RowKit Go.Proofs.Tryz
section
attribute [local go_sem ↓] bD bF bH bI bu
attribute [local go_sem] bc aD bh bg bK bJ bd aY be aO ax cI dC dB dt dj di dA dr dp dn bW co YK bZ YM cz cy cw cu YL YP YB bS bP bR
attribute [local go_sem ↓high] bu sD sE
attribute [local go_sem ↓] wh
attribute [local go_sem] Cv BD mX uw pU sO Yu Z5 ZH yo sZ yn sV ym sU yl sT yk sS yj sR yi sQ yh sP yg pC uI pB uH pA uG py uF pu uE Zu uC pq uB Zt uA po uz pm uy pj ux sY pX sX pW sW pV
theorem No(k:Int)(w:World):Calls prog 143 #[.int .i64 k] w fun e w'=>e= .returned (.bool (jm k))/\w=w':=by
 go_enter func143,ntmps143;go_wp2
 all_goals
  go_ret;refine⟨eT ?_,rfl⟩;unfold jm
  by_cases a:k=8<;>by_cases b:k=10<;>simp_all
def It(k:Int):Bool:=decide (8<=k)&&decide (k<=11)
theorem Mn(k:Int)(w:World):Calls prog 116 #[.int .i64 k] w fun e w'=>e= .returned (.bool (It k))/\w=w':=by
 go_enter func116,ntmps116;go_wp2
 all_goals
  go_ret;refine⟨eT ?_,rfl⟩;unfold It
  by_cases a:8<=k<;>by_cases b:k<=11<;>simp_all<;>omega
theorem Nm(v k c:Int)(w:World):Calls prog 120 #[.int .i64 v,.int .i64 k,.int .i64 c] w fun e w'=>e= .returned (.bool (xF v k c))/\Below w.heap.size w w':=by
 by_cases a:v=4
 ·have h:(v==4)=true:=aK.2 a;have b:Hid (xF v k c=tq c):=aa (if_pos a);clear a;go_enter func120,ntmps120
  go_wp2_with fail
  refine Yg (Lq c _) fun i f=>?_;subst f;go_wp2;go_ret;exact⟨by rw[b.o];rfl,aq _ _⟩
 ·have h:(v==4)=false:=ar.2 a;have b:Hid (xF v k c=may k c):=aa (Fl a);clear a;go_enter func120,ntmps120
  go_wp2_with fail
  refine Yg (Ht k c _) fun i d=>?_;have g:=aa d;clear d
  go_wp2;go_ret;exact⟨by rw[b.o];rfl,g.o⟩
theorem Mx(n:Int):(n.tmod 4+4) % 4=n% 4:=by
 have h:=@Int.tmod_eq_emod n 4;split at h
 ·rw[h];omega
 ·rw[h];have:(((4:Int).natAbs:Nat):Int)=4:=rfl;omega
theorem ZR(n:Int)(w:World):Calls prog 197 #[.int .i64 n] w fun e w'=>e= .returned (.int .i64 (n% 4))/\w=w':=by
 have a:=aa (Mx n);have b:=Int.lt_tmod_of_pos n (show(0:Int)<4 by decide);have c:=Int.tmod_lt_of_pos n (show(0:Int)<4 by decide);go_enter func197,ntmps197;go_wp2;go_ret;exact⟨by rw[<-a.o];rfl,rfl⟩
theorem My{f:Fi}{q h:Int}{a b:Bool}:f=⟨f.topic,q,a,b,h⟩↔f.qos=q/\f.noLocal=a/\f.asPub=b/\f.handling=h:=by
 obtain⟨t,g,c,d,e⟩:=f;simp
theorem O0(v k:Int)(f:Fi):nT v k f=if k=10 then decide (f=⟨f.topic,0,false,false,0⟩)else if(jZ f.qos&&jZ f.handling)=false then false
  else if v=4 then(!f.noLocal&&(!f.asPub&&decide (f.handling=0)))else(!f.noLocal || !fy f.topic):=by
 unfold nT l9
 by_cases a:k=10
 ·rw[if_pos a,if_pos a,<-Ij];refine eb.2 ?_;rw[My,My];exact⟨fun x=>⟨x.2,x.1.2⟩,fun x=>⟨⟨rfl,x.2⟩,x.1⟩⟩
 rw[Fl a,Fl a]
 by_cases b:v=4
 ·rw[if_pos b,if_pos b];have e:decide (f=⟨f.topic,f.qos,false,false,0⟩)=(!f.noLocal&&(!f.asPub&&decide (f.handling=0))):=by
   have:(!f.noLocal&&(!f.asPub&&decide (f.handling=0)))=decide (f.noLocal=false/\f.asPub=false/\f.handling=0):=by
    cases f.noLocal<;>cases f.asPub<;>simp
   rw[this];refine eb.2 ?_;rw[My];exact⟨fun x=>x.2,fun x=>⟨rfl,x⟩⟩
  rw[e]
  by_cases c:f.handling=0
  ·have d:jZ f.handling=true:=by rw[c];rfl
   rw[d,IK];cases jZ f.qos
   ·rw[ru,if_pos rfl]
   ·rw[IK,Fl (by decide)]
  ·rw[ah c];simp
 ·rw[Fl b,Fl b];cases jZ f.qos<;>cases jZ f.handling<;>cases fy f.topic<;>cases f.noLocal<;>rfl
theorem Lw(v k:Int)(f:Fi)(w:World)(hs:f.topic.size<=4611686018427387904):
  Calls prog 119 #[.int .i64 v,.int .i64 k,.agg #[.string f.topic,.int .i64 f.qos,.bool f.noLocal,.bool f.asPub,.int .i64 f.handling]] w fun e w'=>e= .returned (.bool (nT v k f))/\Below w.heap.size w w':=by
 have D:=aa hs;have c:=aa ((aq w.heap.size w).alloc (ac _) (.cells #[.string f.topic,.int .i64 f.qos,.bool f.noLocal,.bool f.asPub,.int .i64 f.handling] 90));have p:=aa (Bk.fresh w 90 #[.string f.topic,.int .i64 f.qos,.bool f.noLocal,.bool f.asPub,.int .i64 f.handling]);have u:=aa (O0 v k f);have G:=kP;have t:=fun W=>mJ f ⟨f.topic,0,false,false,0⟩ W;obtain⟨z,q⟩:∃z,decide (f=⟨f.topic,0,false,false,0⟩)=z:=⟨_,rfl⟩;rw[q]at t;have C:=aa q;clear q hs;go_enter func119,ntmps119
 by_cases m:k=10
 ·have F:(k==10)=true:=aK.2 m;have h:Hid (nT v k f=z):=aa (by rw[u.o,if_pos m,C.o]);clear m;go_wp2;go_ret;exact⟨by rw[h.o];rfl,c.o⟩
 have F:(k==10)=false:=ar.2 m;have g:Hid (nT v k f=if(jZ f.qos&&jZ f.handling)=false then false
  else if v=4 then(!f.noLocal&&(!f.asPub&&decide (f.handling=0)))else(!f.noLocal || !fy f.topic)):=aa (by rw[u.o,Fl m])
 clear m u
 by_cases H:f.qos<0
 ·have h:Hid (nT v k f=false):=aa (by rw[g.o,if_pos (by unfold jZ;rw[ah (show ¬0<=f.qos by omega)];rfl)]);go_wp2;go_ret;exact⟨by rw[h.o];rfl,c.o⟩
 by_cases I:2<f.qos
 ·have h:Hid (nT v k f=false):=aa (by rw[g.o,if_pos (by unfold jZ;rw[ah (show ¬f.qos<3 by omega),ru];rfl)]);go_wp2;go_ret;exact⟨by rw[h.o];rfl,c.o⟩
 have n:jZ f.qos=true:=by unfold jZ;rw[au (show 0<=f.qos by omega),au (show f.qos<3 by omega)];rfl
 by_cases b1:f.handling<0
 ·have h:Hid (nT v k f=false):=aa (by rw[g.o,if_pos (by rw[n];unfold jZ;rw[ah (show ¬0<=f.handling by omega)];rfl)]);clear n;go_wp2;go_ret;exact⟨by rw[h.o];rfl,c.o⟩
 by_cases b2:2<f.handling
 ·have h:Hid (nT v k f=false):=aa (by rw[g.o,if_pos (by rw[n];unfold jZ;rw[ah (show ¬f.handling<3 by omega),ru];rfl)]);clear n;go_wp2;go_ret;exact⟨by rw[h.o];rfl,c.o⟩
 have o:Hid (nT v k f=if v=4 then(!f.noLocal&&(!f.asPub&&decide (f.handling=0)))else(!f.noLocal || !fy f.topic)):=aa (by
  rw[g.o,Fl (by rw[n,show jZ f.handling=true by unfold jZ;rw[au (show 0<=f.handling by omega),au (show f.handling<3 by omega)];rfl];decide)])
 clear n g
 by_cases l:v=4
 ·have E:(v==4)=true:=aK.2 l;have d:Hid (nT v k f=(!f.noLocal&&(!f.asPub&&decide (f.handling=0)))):=aa (by rw[o.o,if_pos l]);clear l;obtain⟨j,i⟩:∃j,f.noLocal=j:=⟨_,rfl⟩;obtain⟨x,s⟩:∃x,f.asPub=x:=⟨_,rfl⟩;rw[i,s]at d p t c⊢;clear i s;cases j
  ·cases x
   ·go_wp2;go_ret;exact⟨by rw[d.o];rfl,c.o⟩
   ·go_wp2;go_ret;exact⟨by rw[d.o];rfl,c.o⟩
  ·go_wp2;go_ret;exact⟨by rw[d.o];rfl,c.o⟩
 have E:(v==4)=false:=ar.2 l;have d:Hid (nT v k f=(!f.noLocal || !fy f.topic)):=aa (by rw[o.o,Fl l]);clear l o
 go_wp2_with fail
 refine(KB f.topic _ D.o).mono ?_;rintro e J ⟨⟨a,b,rfl⟩,y⟩;have r:=aa (Yf c.o y);have A:=aa (Yh p.o y);clear y;have B:=A.o.cell 2;simp only[ay,aE,aB]at B;obtain⟨j,i⟩:∃j,f.noLocal=j:=⟨_,rfl⟩;rw[i]at d B⊢;clear i;generalize fy f.topic=sh at*;cases j
 ·go_wp2;go_ret;exact⟨by rw[d.o];rfl,r.o⟩
 ·go_wp2;go_ret;exact⟨by rw[d.o];rfl,r.o⟩
theorem Nl(f:Fi)(w:World):
  Calls prog 130 #[.agg #[.string f.topic,.int .i64 f.qos,.bool f.noLocal,.bool f.asPub,.int .i64 f.handling]] w fun e w'=>e= .returned (.int .i64 (BS f))/\Below w.heap.size w w':=by
 have b:=aa ((aq w.heap.size w).alloc (ac _) (.cells #[.string f.topic,.int .i64 f.qos,.bool f.noLocal,.bool f.asPub,.int .i64 f.handling] 90));have a:=aa (Bk.fresh w 90 #[.string f.topic,.int .i64 f.qos,.bool f.noLocal,.bool f.asPub,.int .i64 f.handling]);obtain⟨A,p⟩:∃A,f.qos% 4=A:=⟨_,rfl⟩;obtain⟨B,q⟩:∃B,f.handling% 4=B:=⟨_,rfl⟩;obtain⟨j,i⟩:∃j,f.noLocal=j:=⟨_,rfl⟩;obtain⟨c,g⟩:∃c,f.asPub=c:=⟨_,rfl⟩;have k:Hid (BS f=A+16*B+pc j 4+pc c 8):=aa (by unfold BS;rw[p,q,i,g];omega);have I:0<=A:=by omega
 have J:A<=3:=by omega
 have K:0<=B:=by omega
 have L:B<=3:=by omega
 have D:=aa p;have v:=aa q
 clear p q;rw[i,g]at a b⊢;clear i g;go_enter func130,ntmps130
 go_wp2_with fail
 obtain⟨W,z⟩:∃W,w.alloc (.cells #[.string f.topic,.int .i64 f.qos,.bool j,.bool c,.int .i64 f.handling] 90)=W:=⟨_,rfl⟩;rw[z]at a b⊢;clear z;have t:=jw (W:=W) (fun x _=>(ZR f.qos x).mono (fun e w' h=>⟨h.1,h.2▸aq _ _⟩));have u:=jw (W:=W) (fun x _=>(ZR f.handling x).mono (fun e w' h=>⟨h.1,h.2▸aq _ _⟩));rw[D.o]at t;rw[v.o]at u;have G:=cell_regrown (show W.cell? ⟨w.heap.size,1,none⟩=some (.int .i64 f.qos)from a.o.cell 1);have H:=cell_regrown (show W.cell? ⟨w.heap.size,4,none⟩=some (.int .i64 f.handling)from a.o.cell 4);have m:=aa (fun d s=>b.o.trans ((below_regrown W d s).mono b.o.size));have n:=aa (fun d s=>a.o.below (below_regrown W d s) a.o.lt);refine wp_region_quiet_below (by as_aux_lemma=>kernel_rfl) (by as_aux_lemma=>kernel_rfl) ?_
 repeat (go_big_quiet_step (first| with_reducible exact t _ _| with_reducible exact u _ _))
 refine kE ?_;intro _ C;obtain⟨⟨o,osq⟩,r⟩:=C;subst r;have l:=aa (m.o o osq);have y:=aa (n.o o osq);clear t u G H m n;generalize Sort.grow (redrawn _ o) osq=wq at*;have E:=y.o.cell 2;have F:=y.o.cell 3;simp only[ay,aE,aB]at E F;cases j
 ·cases c
  ·go_wp2;go_ret;exact⟨by rw[k.o];simp[pc],l.o⟩
  ·go_wp2;go_ret;exact⟨by rw[k.o];simp[pc],l.o⟩
 ·cases c
  ·go_wp2;go_ret;exact⟨by rw[k.o];simp[pc],l.o⟩
  ·go_wp2;go_ret;exact⟨by rw[k.o];simp[pc],l.o⟩
def rsQ(v:Int)(p:Pk):Pk:=
 if jm p.kind=true then {pk0 with kind:=p.kind,id:=p.id,props:=p.props,filters:=p.filters}
 else if p.kind=9\/v=5 then {pk0 with kind:=p.kind,id:=p.id,props:=p.props,codes:=p.codes}
 else {pk0 with kind:=p.kind,id:=p.id,props:=p.props}
def rsH(v:Int)(p:Pk)(h:Hs):Hs:=
 if jm p.kind=true then {hs0 with props:=h.props,filters:=h.filters}
 else if p.kind=9\/v=5 then {hs0 with props:=h.props,codes:=h.codes}
 else {hs0 with props:=h.props}
theorem PT{v:Int}{p:Pk}(hv:v=4\/v=5)(hk:It p.kind=true)(h:Hs):rsQ v p=sbQ v p/\rsH v p h=sbH v p h:=by
 unfold It at hk;simp only[eh,Fx]at hk;unfold rsQ sbQ rsH sbH
 by_cases a:jm p.kind=true
 ·rw[if_pos a,if_pos a,if_pos a,if_pos a];exact⟨rfl,rfl⟩
 ·rw[Fl a,Fl a,Fl a,Fl a];have d:¬(p.kind=8\/p.kind=10):=fun x=>a (au x)
  by_cases b:p.kind=9\/v=5
  ·have c:pP v p.kind=false:=ah (fun x=>by omega);rw[if_pos b,if_pos b,c,Fl (by decide),Fl (by decide)];exact⟨rfl,rfl⟩
  ·have c:pP v p.kind=true:=au ⟨by omega,by omega⟩;rw[Fl b,Fl b,if_pos c,if_pos c];exact⟨rfl,rfl⟩
theorem M6(W:World){n:Nat}(hz:W.heap.size=n):∀q k,(zc (.pointer (some ⟨n,0,none⟩)) (pkV q k)).run prog (W.alloc (.cells (pkC pk0 hs0) PkT))= .ok () (pw (W.alloc (.cells (pkC pk0 hs0) PkT)) n (pkC q k)):=fun q k=>by
 have b:=ax W pk0 q hs0 k;have d:pw (W.alloc (.cells (pkC pk0 hs0) PkT)) n (pkC q k)=W.alloc (.cells (pkC q k) PkT):=by
  have c:(pw (W.alloc (.cells (pkC pk0 hs0) PkT)) W.heap.size (pkC q k))=W.alloc (.cells (pkC q k) PkT):=by
   have f:(W.heap.push (.cells (pkC pk0 hs0) PkT (0,0))).setIfInBounds W.heap.size (.cells (pkC q k) PkT (0,0))=W.heap.push (.cells (pkC q k) PkT (0,0)):=by
    apply Il;intro i;rw[Array.getElem?_push]
    by_cases a:W.heap.size=i
    ·subst a;simp
    ·rw[eK a,Array.getElem?_push,Fl (fun e=>a e.symm),Fl (fun e=>a e.symm)]
   exact congrArg (fun x=>{W with heap:=x}) f
  rw[hz]at c;exact c
 rw[hz]at b;rw[d];exact b
theorem Nk(v:Int)(p:Pk)(h:Hs)(w:World):
  Calls prog 117 #[.int .i64 v,pkV p h] w fun e w'=>e= .returned (pkV (rsQ v p) (rsH v p h))/\Below w.heap.size w w':=by
 have m:=ic w (.cells (pkC p h) PkT) (.cells (pkC pk0 hs0) PkT);have t:Bk ((w.alloc (.cells (pkC p h) PkT)).alloc (.cells (pkC pk0 hs0) PkT)) w.heap.size PkT (pkC p h):=(Bk.fresh w PkT (pkC p h)).alloc _;have u:Bk ((w.alloc (.cells (pkC p h) PkT)).alloc (.cells (pkC pk0 hs0) PkT)) (w.heap.size+1) PkT (pkC pk0 hs0):=by
  have:=Bk.fresh (w.alloc (.cells (pkC p h) PkT)) PkT (pkC pk0 hs0);rwa[show(w.alloc (.cells (pkC p h) PkT)).heap.size=w.heap.size+1 by simp]at this
 have r:((w.alloc (.cells (pkC p h) PkT)).alloc (.cells (pkC pk0 hs0) PkT)).heap.size=w.heap.size+2:=by simp
 generalize O:(w.alloc (.cells (pkC p h) PkT)).alloc (.cells (pkC pk0 hs0) PkT)=W at m t u r;have C:=aa m;have B:=aa t;have G:=aa u;have L:=aa r
 clear m t u;have R:=fun i=>B.o.cell i;have S:=wu p.kind p.id p.props h.props.a h.props.c;have x:=Bk.fresh W PkT (pkC pk0 hs0);rw[r]at x;have s:w.heap.size+2<(W.alloc (.cells (pkC pk0 hs0) PkT)).heap.size:=x.lt;have j:Bk (W.alloc (.cells (pkC pk0 hs0) PkT)) w.heap.size PkT (pkC p h):=B.o.alloc _;have l:Bk (W.alloc (.cells (pkC pk0 hs0) PkT)) (w.heap.size+1) PkT (pkC pk0 hs0):=G.o.alloc _;have z:Below w.heap.size w (W.alloc (.cells (pkC pk0 hs0) PkT)):=C.o.alloc C.o.size _;have A:=M6 W r;generalize N:W.alloc (.cells (pkC pk0 hs0) PkT)=V at s j l z A;have H:=aa j;have I:=aa l;have NB:=aa z;have M:=aa s
 clear j l z x;have f1:∀b,Bk (pw V (w.heap.size+2) b) w.heap.size PkT (pkC p h):=fun b=>(uv V (w.heap.size+2) b (by omega)).trans H.o;have P:=fun b=>(f1 b).cell;clear f1;have F:Hid (∀b,Bk (pw V (w.heap.size+2) b) (w.heap.size+1) PkT (pkC pk0 hs0)):=aa (fun b=>(uv V (w.heap.size+2) b (by omega)).trans I.o);have Q:=fun b q k=>aW (F.out b) q k;have D:Hid (∀b,Below w.heap.size w (pw V (w.heap.size+2) b)):=aa (fun b=>BC V (w.heap.size+2) b NB.o (by omega));go_enter func117,ntmps117
 go_wp2_with fail
 refine Yg (No p.kind _) fun T E=>?_;subst E;cases d:jm p.kind
 focus
  by_cases f:p.kind=9
  focus
   have K:(p.kind==9)=true:=aK.2 f;have n:Hid (rsQ v p= {pk0 with kind:=p.kind,id:=p.id,props:=p.props,codes:=p.codes}):=aa (by unfold rsQ;rw[Fl (by rw[d];decide),if_pos (.inl f)]);have o:Hid (rsH v p h= {hs0 with props:=h.props,codes:=h.codes}):=aa (by unfold rsH;rw[Fl (by rw[d];decide),if_pos (.inl f)]);clear d f
  rotate_left
  focus
   have K:(p.kind==9)=false:=ar.2 f
   by_cases g:v=5
   focus
    have J:(v==5)=true:=aK.2 g;have n:Hid (rsQ v p= {pk0 with kind:=p.kind,id:=p.id,props:=p.props,codes:=p.codes}):=aa (by unfold rsQ;rw[Fl (by rw[d];decide),if_pos (.inr g)]);have o:Hid (rsH v p h= {hs0 with props:=h.props,codes:=h.codes}):=aa (by unfold rsH;rw[Fl (by rw[d];decide),if_pos (.inr g)]);clear d f g
   rotate_left
   focus
    have J:(v==5)=false:=ar.2 g;have n:Hid (rsQ v p= {pk0 with kind:=p.kind,id:=p.id,props:=p.props}):=aa (by unfold rsQ;rw[Fl (by rw[d];decide),Fl (fun y=>y.elim f g)]);have o:Hid (rsH v p h= {hs0 with props:=h.props}):=aa (by unfold rsH;rw[Fl (by rw[d];decide),Fl (fun y=>y.elim f g)]);clear d f g
   rotate_left
  rotate_left 2
 rotate_left 3
 focus
  have n:Hid (rsQ v p= {pk0 with kind:=p.kind,id:=p.id,props:=p.props,filters:=p.filters}):=aa (by unfold rsQ;rw[if_pos d]);have o:Hid (rsH v p h= {hs0 with props:=h.props,filters:=h.filters}):=aa (by unfold rsH;rw[if_pos d]);clear d
 rotate_left
 all_goals
  go_wp2;refine av (fz rfl _ rfl (cO (F.out _) _ _)) rfl ?_;rw[n.o,o.o];exact⟨rfl,YQ (D.o _) (D.o _).size (IT _) _ _⟩
end
section
attribute [local go_sem ↓] bD bF bH bI bu
attribute [local go_sem] bc aD bh bg bK bJ bd aY be aO ax cI dC dB dt dj di dA dr dp dn bW co YK bZ YM cz cy cw cu YL YP YB bS bP bR
def gB(v:Int)(p:Pk):Bool:=YG v&&(It p.kind&&(decide (p=rsQ v p)&&(!decide (p.id<1)&&(!decide (65535<p.id)&& !(decide (v=4)&&decide (0<p.props.length))))))
theorem Qi(v:Int)(p:Pk):xY v p=(gB v p&&lj v p):=by
 unfold xY eH gB;have c:ir v p.kind=(YG v&&It p.kind):=by
  unfold ir YG It;rw[<-Ij,<-Ij]
 rw[c];cases a:YG v
 ·rfl
 cases b:It p.kind
 ·rfl
 rw[(PT (aR a) b hs0).1];cases decide (p.id<1)<;>cases decide (65535<p.id)<;>cases decide (v=4)<;>cases decide (0<p.props.length)<;>cases lj v p<;>cases decide (p=sbQ v p)<;>rfl
theorem PI{v:Int}{p:Pk}(g:gB v p=true):lj v p= !(decide (p.filters.length+p.codes.length=0)&& !(decide (p.kind=11)&&decide (v=4))):=by
 unfold gB at g;simp only[eh]at g;obtain⟨f,e,a,-⟩:=g;have a:=aR a;rw[(PT (aR f) e hs0).1]at a;unfold It at e;simp only[eh,Fx]at e;unfold lj;cases c:jm p.kind
 ·have i:=Ib a c;rw[Fl (by decide),i];have j:¬(p.kind=8\/p.kind=10):=Gy c;cases b:pP v p.kind
  ·rw[Fl (by decide)];have d:¬(p.kind=11/\v=4):=Gy b;have:(decide (p.kind=11)&&decide (v=4))=false:=by rw[<-Ij];exact ah d
   rw[this,Bool.not_false,IK,<-decide_not];exact eb.2 (by simp only[eC];omega)
  ·rw[if_pos rfl];have d:p.kind=11/\v=4:=aR b;rw[au d.1,au d.2];simp
 ·have h:=Iz a c;rw[if_pos rfl,h];have j:p.kind=8\/p.kind=10:=aR c;rw[ah (show ¬p.kind=11 by omega),YH,Bool.not_false,IK,<-decide_not];exact eb.2 (by simp only[eC];omega)
theorem OX(v:Int){p:Pk}(x:gz p):gz (rsQ v p):=by
 unfold rsQ;split
 ·exact⟨ag _,ag _,x.2.2.1,x.2.2.2⟩
 ·split
  ·exact⟨ag _,x.2.1,ag _,x.2.2.2⟩
  ·exact⟨ag _,ag _,ag _,x.2.2.2⟩
theorem PZ(v:Int){w:World}{B:Nat}{p:Pk}{h:Hs}(x:PkIn w B p h):PkIn w B (rsQ v p) (rsH v p h):=by
 unfold rsQ rsH;split
 ·exact⟨Rd.nil _ _ _ _,Rd.nil _ _ _ _,x.filters,x.props,ag _,ag _,x.caps.2.2.1,x.caps.2.2.2⟩
 ·split
  ·exact⟨Rd.nil _ _ _ _,x.codes,Rd.nil _ _ _ _,x.props,ag _,x.caps.2.1,ag _,x.caps.2.2.2⟩
  ·exact⟨Rd.nil _ _ _ _,Rd.nil _ _ _ _,Rd.nil _ _ _ _,x.props,ag _,ag _,ag _,x.caps.2.2.2⟩
theorem Kh(v:Int)(p:Pk)(h:Hs)(w:World)(ip:PkIn w w.heap.size p h)(ok:PkOk p):
  Calls prog 77 #[.int .i64 v,pkV p h] w fun e w'=>e= .returned (.int .i64 (sbE v p))/\Below w.heap.size w w':=by
 have X:=aa ok;have G:=aa ((St.start w).push ip);have HE:Hid (sbE v p=if xY v p=false then 2 else if(aM p.kind p.props).2≠0 then(aM p.kind p.props).2
  else if fiE v p.kind p.filters≠0 then fiE v p.kind p.filters else cdE v p.kind p.codes):=aa rfl
 have HG:Hid (gB v p=(YG v&&(It p.kind&&(decide (p=rsQ v p)&&(!decide (p.id<1)&&(!decide (65535<p.id)&& !(decide (v=4)&&decide (0<p.props.length)))))))):=aa rfl;obtain⟨W,hW⟩:∃W,w.alloc (.cells (pkC p h) PkT)=W:=⟨_,rfl⟩;rw[hW]at G;clear ip ok;go_enter func77,ntmps77
 go_upto_region 1 with fail
 clear hW
 go_cut [44] (fun a wx=>a= .bool (!gB v p)/\St w [(w.heap.size,p,h)] wx)
 case first=>
  have D:=jw (W:=W) (fun x _=>(pS v x).mono (by rintro e w' ⟨rfl,rfl⟩;exact⟨rfl,aq _ _⟩));have T:=jw (W:=W) (fun x _=>(Mn p.kind x).mono (by rintro e w' ⟨rfl,rfl⟩;exact⟨rfl,aq _ _⟩));have q2:=jw (W:=W) (fun x _=>Nk v p h x);have U:=jw (W:=W) (fun x F=>GP p (rsQ v p) h (rsH v p h) x ((G.o.below F).into 0 rfl) (PZ v ((G.o.below F).into 0 rfl)) X.o.len (OX v X.o.len));have R:=cell_regrown (show W.cell? ⟨w.heap.size,0,none⟩=some (.int .i64 p.kind)from G.o.cell 0 rfl 0);have k4:=cell_regrown (show W.cell? ⟨w.heap.size,4,none⟩=some (.int .i64 p.id)from G.o.cell 0 rfl 4);have S:=cell_regrown (show W.cell? ⟨w.heap.size,24,none⟩=some (.slice h.props.a p.props.length h.props.c)from G.o.cell 0 rfl 24);have l0:=qp (G.o.bk 0 rfl);have l:Hid (∀d J,Below W.heap.size W (Sort.grow (redrawn W d) J)):=aa (fun d J=>below_regrown W d J);generalize rsQ v p=Q at*;generalize rsH v p h=QH at*;cases I:YG v
  focus
   rw[I]at D;have g:Hid (gB v p=false):=aa (by rw[HG.o,I];rfl);clear I
  rotate_left;rw[I]at D;cases O:It p.kind
  focus
   rw[O]at T;have g:Hid (gB v p=false):=aa (by rw[HG.o,I,O];rfl);clear I O
  rotate_left;rw[O]at T;cases hq:decide (p=Q)
  focus
   rw[hq]at U;have g:Hid (gB v p=false):=aa (by rw[HG.o,I,O,hq];rfl);clear I O hq
  rotate_left;rw[hq]at U;have ax:Hid (gB v p=(!decide (p.id<1)&&(!decide (65535<p.id)&& !(decide (v=4)&&decide (0<p.props.length))))):=aa (by rw[HG.o,I,O,hq];rfl);clear I O hq HG
  by_cases a1:p.id<1
  focus
   have x1:decide (p.id<(1:Int))=true:=au a1;have g:Hid (gB v p=false):=aa (by rw[ax.o,au a1];rfl)
  rotate_left;have x1:decide (p.id<(1:Int))=false:=ah a1
  by_cases a2:65535<p.id
  focus
   have x2:decide ((65535:Int)<p.id)=true:=au a2;have g:Hid (gB v p=false):=aa (by rw[ax.o,au a2,Ra,YH,ru])
  rotate_left;have x2:decide ((65535:Int)<p.id)=false:=ah a2;have ay:Hid (gB v p= !(decide (v=4)&&decide (0<p.props.length))):=aa (by rw[ax.o,ah a1,ah a2];rfl)
  by_cases Z:v=4
  ·have e4:(v==4)=true:=aK.2 Z
   by_cases ap:0<p.props.length
   ·have d4:decide ((0:Int)<(p.props.length:Int))=true:=au (by omega);have g:Hid (gB v p=false):=aa (by rw[ay.o,au Z,au ap];rfl);clear Z
    go_wp2_with fail
    refine wp_region_quiet_below (by kernel_rfl) (by kernel_rfl) ?_
    repeat (go_big_quiet_step (first| with_reducible exact D _ _| with_reducible exact T _ _| with_reducible exact q2 _ _| with_reducible exact U _ _))
    refine kE ?_;intro _ B;obtain⟨⟨t,osq⟩,s⟩:=B;subst s;have H:=aa (G.o.below (l.o t osq));clear D T q2 U l0 R k4 S l;generalize Sort.grow (redrawn _ t) osq=wq at*;go_wp2
    go_meet
    case rel=>exact⟨by rw[g.o];first| rfl| (rw[au ap];rfl),H.o⟩
   ·have d4:decide ((0:Int)<(p.props.length:Int))=false:=ah (by omega);have g:Hid (gB v p=true):=aa (by rw[ay.o,ah ap,ru];rfl);clear Z
    go_wp2_with fail
    refine wp_region_quiet_below (by kernel_rfl) (by kernel_rfl) ?_
    repeat (go_big_quiet_step (first| with_reducible exact D _ _| with_reducible exact T _ _| with_reducible exact q2 _ _| with_reducible exact U _ _))
    refine kE ?_;intro _ B;obtain⟨⟨t,osq⟩,s⟩:=B;subst s;have H:=aa (G.o.below (l.o t osq));clear D T q2 U l0 R k4 S l;generalize Sort.grow (redrawn _ t) osq=wq at*;go_wp2
    go_meet
    case rel=>exact⟨by rw[g.o];first| rfl| (rw[ah ap];rfl),H.o⟩
  focus
   have e4:(v==4)=false:=ar.2 Z;have g:Hid (gB v p=true):=aa (by rw[ay.o,ah Z,YH];rfl);clear Z
  rotate_left
  all_goals
   go_wp2_with fail
   refine wp_region_quiet_below (by kernel_rfl) (by kernel_rfl) ?_
   repeat (go_big_quiet_step (first| with_reducible exact D _ _| with_reducible exact T _ _| with_reducible exact q2 _ _| with_reducible exact U _ _))
   refine kE ?_;intro _ B;obtain⟨⟨t,osq⟩,s⟩:=B;subst s;have H:=aa (G.o.below (l.o t osq));clear D T q2 U l0 R k4 S l;generalize Sort.grow (redrawn _ t) osq=wq at*;go_wp2
   go_meet
   case rel=>exact⟨by rw[g.o];rfl,H.o⟩
 obtain⟨rfl,P⟩:=hcut;have u:=aa P;have an:Hid (xY v p=(gB v p&&lj v p)):=aa (Qi v p);clear P G;cases N:gB v p
 ·have g:Hid (sbE v p=2):=aa (by rw[HE.o,if_pos (by rw[an.o,N];rfl)]);clear N;go_wp2;go_ret;exact⟨by rw[g.o];rfl,u.o.kept⟩
 have HH:Hid (lj v p= !(decide (p.filters.length+p.codes.length=0)&& !(decide (p.kind=11)&&decide (v=4)))):=aa (PI N);have HP:Hid (v=4->p.props.length=0):=aa (fun h4=>by
  unfold gB at N;simp only[eh]at N;have h5:=N.2.2.2.2.2;rw[au h4]at h5
  by_cases h0:0<p.props.length
  ·rw[au h0]at h5;cases h5
  ·omega)
 have ao:Hid (xY v p=lj v p):=aa (by rw[an.o,N,aL]);obtain⟨n,hn⟩:∃n,p.filters.length=n:=⟨_,rfl⟩;obtain⟨m,hm⟩:∃m,p.codes.length=m:=⟨_,rfl⟩;have R:=u.o.cell 0 rfl;have r:=R 23;have q:=R 22
 rw[bP,hn]at r;rw[bS,hm]at q;have C:=(R 0).trans (cI _ _);rw[hn,hm]at HH;have HN:=aa hn;have HM:=aa hm
 have bI:n<=140737488351232:=by have:=X.o.lens.2.2.1;omega
 have bH:m<=140737488351232:=by have:=X.o.lens.2.1;omega
 clear hn hm R N an
 go_upto_region 3 with fail
 go_cut [62] (fun a wx=>a= .bool (!lj v p)/\St w [(w.heap.size,p,h)] wx)
 case first=>
  by_cases z:n+m=0
  rotate_left
  ·have e0:((n:Int)+(m:Int)==0)=false:=ar.2 (by omega);have g:Hid (lj v p=true):=aa (by rw[HH.o,ah z];rfl);clear z;go_wp2
   go_meet
   case rel=>exact⟨by rw[g.o];rfl,u.o⟩
  have e0:((n:Int)+(m:Int)==0)=true:=aK.2 (by omega)
  by_cases V:p.kind=11
  rotate_left
  ·have e1:(p.kind==11)=false:=ar.2 V;have g:Hid (lj v p=false):=aa (by rw[HH.o,au z,ah V];rfl);clear z V;go_wp2
   go_meet
   case rel=>exact⟨by rw[g.o];rfl,u.o⟩
  have e1:(p.kind==11)=true:=aK.2 V
  by_cases z2:v=4
  ·have e2:(v==4)=true:=aK.2 z2;have g:Hid (lj v p=true):=aa (by rw[HH.o,au z,au V,au z2];rfl);clear z V z2;go_wp2
   go_meet
   case rel=>exact⟨by rw[g.o];rfl,u.o⟩
  ·have e2:(v==4)=false:=ar.2 z2;have g:Hid (lj v p=false):=aa (by rw[HH.o,au z,au V,ah z2];rfl);clear z V z2;go_wp2
   go_meet
   case rel=>exact⟨by rw[g.o];rfl,u.o⟩
 obtain⟨rfl,P⟩:=hcut;clear q r C u;have u:=aa P;clear P HH;cases hh:lj v p
 ·have g:Hid (sbE v p=2):=aa (by rw[HE.o,if_pos (by rw[ao.o,hh])]);clear hh;go_wp2;go_ret;exact⟨by rw[g.o];rfl,u.o.kept⟩
 have ac:Hid (sbE v p=if(aM p.kind p.props).2≠0 then(aM p.kind p.props).2 else if fiE v p.kind p.filters≠0 then fiE v p.kind p.filters else cdE v p.kind p.codes):=aa (by rw[HE.o,Fl (by rw[ao.o,hh];decide)]);clear hh HE ao;have C:=(u.o.cell 0 rfl 0).trans (cI _ _);have S:=(u.o.cell 0 rfl 24).trans (bR _ _)
 go_wp2_with fail
 refine Yg (Gx v p.kind p.props _ rfl X.o.props h.props.a h.props.c _ (u.o.into 0 rfl).props X.o.len.2.2.2 (u.o.into 0 rfl).caps.2.2.2) fun w2 hb=>?_;rw[Ir HP.o];have H:=aa (u.o.below hb);clear hb C S
 obtain⟨x,F⟩:∃x,(aM p.kind p.props).2=x:=⟨_,rfl⟩;rw[F]at ac⊢;clear F
 by_cases F:x=0
 rotate_left
 ·have g:Hid (sbE v p=x):=aa (by rw[ac.o,if_pos F]);have e0:(x !=0)=true:=aA.2 F;clear F;go_wp2;go_ret;exact⟨by rw[g.o];rfl,H.o.kept⟩
 have ad:Hid (sbE v p=if fiE v p.kind p.filters≠0 then fiE v p.kind p.filters else cdE v p.kind p.codes):=aa (by rw[ac.o,Fl (fun y=>y F)]);have e0:(x !=0)=false:=by rw[F];rfl
 clear F ac;have r:=H.o.cell 0 rfl 23;have q:=H.o.cell 0 rfl 22;rw[bP,HN.o]at r;rw[bS,HM.o]at q;have C:=(H.o.cell 0 rfl 0).trans (cI _ _);go_wp2
 go_loopw [6] (fun i wr=>∃k:Nat,k<=n/\i= .int .i64 k/\fiE v p.kind p.filters=fiE v p.kind (p.filters.drop k)/\Below w2.heap.size w2 wr) (fun i _=>n- (intOf i).toNat)
 case atStart=>exact⟨0,by omega,rfl,by rw[Yl],aq _ _⟩
 case round=>
  obtain⟨k,I,rfl,a3,aD⟩:=hrel;have S3:=aa (H.o.below aD);have HF:=aa a3;have bh:=aa aD
  clear a3 C q r;have C:=(S3.o.cell 0 rfl 0).trans (cI _ _);have q:=S3.o.cell 0 rfl 22;rw[bS,HM.o]at q;have r:=S3.o.cell 0 rfl 23;rw[bP,HN.o]at r
  by_cases bo:k<n
  ·have K:k<p.filters.length:=by rw[HN.o];exact bo
   obtain⟨b,o,hA,hb,c0,c1,c2,c3,c4⟩:=((S3.o.into 0 rfl).filters).atF K;have a5:=X.o.topics p.filters[k] (iY K);have aV:=aa (HF.o.trans (Yz (v:=v) (k:=p.kind) K));generalize p.filters[k]=f at*;have aY:=aa a5;have b1:(0:Int)<=(k:Int):=by omega
   have b2:(k:Int)<(n:Int):=by omega
   clear K a5;have Y:=S3;have aW:=bh;have M:=hb
   go_wp2_with fail
   refine Yg (Jo f.topic _ (by have:=aY.o;omega)) fun w4 E=>?_;have S5:=aa (Y.o.below E);have ab:=aa (Yf aW.o E);have c0:=(E.cell (p:=⟨b,o+k*5,none⟩) M).trans c0;have c1:=(E.cell (p:=⟨b,o+k*5+1,none⟩) M).trans c1;have c2:=(E.cell (p:=⟨b,o+k*5+2,none⟩) M).trans c2;have c3:=(E.cell (p:=⟨b,o+k*5+3,none⟩) M).trans c3;have c4:=(E.cell (p:=⟨b,o+k*5+4,none⟩) M).trans c4;clear E C q r;have r:=S5.o.cell 0 rfl 23;rw[bP,HN.o,hA]at r;have C:=(S5.o.cell 0 rfl 0).trans (cI _ _);cases ae:gj f.topic
   ·have g:Hid (sbE v p=10):=aa (by
     have e:fiE v p.kind p.filters=10:=by rw[aV.o,if_pos ae]
     rw[ad.o,e,if_pos (by decide)])
    clear ae;go_wp2;go_ret;exact⟨by rw[g.o];rfl,S5.o.kept⟩
   have av:Hid (fiE v p.kind p.filters=if nT v p.kind f=false then 2 else fiE v p.kind (p.filters.drop (k+1))):=aa (by rw[aV.o,Fl (by rw[ae];decide)]);clear ae
   go_wp2_with fail
   have D:=jw (W:=w4) (fun x _=>Lw v p.kind f x (by have:=aY.o;omega));have r0:=cell_regrown c0;have r1:=cell_regrown c1;have r2:=cell_regrown c2;have r3:=cell_regrown c3;have r4:=cell_regrown c4
   have rk:=cell_regrown C;have bq:=cell_regrown r
   have l:Hid (∀d J,Below w4.heap.size w4 (Sort.grow (redrawn w4 d) J)):=aa (fun d J=>below_regrown w4 d J);clear c0 c1 c2 c3 c4 C r;refine wp_region_quiet_below (by kernel_rfl) (by kernel_rfl) ?_
   repeat (go_big_quiet_step (first| with_reducible exact D _ _))
   refine kE ?_;intro _ B;obtain⟨⟨t,osq⟩,s⟩:=B;subst s;have S6:=aa (S5.o.below (l.o t osq));have bg:=aa (ab.o.trans ((l.o t osq).mono ab.o.size));clear D r0 r1 r2 r3 r4 rk bq l;generalize Sort.grow (redrawn _ t) osq=w5 at*;cases A:nT v p.kind f
   ·have g:Hid (sbE v p=2):=aa (by
     have e:fiE v p.kind p.filters=2:=by rw[av.o,if_pos A]
     rw[ad.o,e,if_pos (by decide)])
    clear A;go_wp2;go_ret;exact⟨by rw[g.o];rfl,S6.o.kept⟩
   have g:Hid (fiE v p.kind p.filters=fiE v p.kind (p.filters.drop (k+1))):=aa (by rw[av.o,Fl (by rw[A];decide)]);clear A;go_wp2
   go_roundw
   case rel=>exact⟨k+1,by omega,by go_num,g.o,bg.o⟩
   case measure=>simp[intOf];omega
  ·obtain rfl:k=n:=by omega
   have g:Hid (sbE v p=cdE v p.kind p.codes):=aa (by
    have e:fiE v p.kind p.filters=0:=by rw[HF.o,<-HN.o,ox];rfl
    rw[ad.o,e,Fl (fun y=>y rfl)])
   clear ad HF;go_wp2
   go_loopw [7] (fun i wq=>∃k:Nat,k<=m/\i= .int .i64 k/\cdE v p.kind p.codes=cdE v p.kind (p.codes.drop k)/\Below wr.heap.size wr wq) (fun i _=>m- (intOf i).toNat)
   case atStart=>exact⟨0,by omega,rfl,by rw[Yl],aq _ _⟩
   case round=>
    obtain⟨j,hj,rfl,a0,aZ⟩:=hrel;have Y:=aa (S3.o.below aZ);have HC:=aa a0;have aX:=aa aZ
    clear a0 C q r;have C:=(Y.o.cell 0 rfl 0).trans (cI _ _);have q:=Y.o.cell 0 rfl 22;rw[bS,HM.o]at q
    by_cases a9:j<m
    ·have K:j<p.codes.length:=by rw[HM.o];exact a9
     obtain⟨b,o,z,hA,hb,hz,hc⟩:=((Y.o.into 0 rfl).codes).atI K;have HZ:Hid (cdE v p.kind p.codes=if xF v p.kind z=false then 2 else cdE v p.kind (p.codes.drop (j+1))):=aa (by
      rw[HC.o,F8 K];rw[List.getElem?_eq_getElem K]at hz;rw[Option.some.inj hz])
     have b1:(0:Int)<=(j:Int):=by omega
     have b2:(j:Int)<(m:Int):=by omega
     clear K hz
     go_wp2_with fail
     have D:=jw (W:=wr) (fun x _=>Nm v p.kind z x);have r0:=cell_regrown hc;have rk:=cell_regrown C;have bp:=cell_regrown q
     have l:Hid (∀d J,Below wr.heap.size wr (Sort.grow (redrawn wr d) J)):=aa (fun d J=>below_regrown wr d J);clear hc C q;refine wp_region_quiet_below (by kernel_rfl) (by kernel_rfl) ?_
     repeat (go_big_quiet_step (first| with_reducible exact D _ _))
     refine kE ?_;intro _ B;obtain⟨⟨t,osq⟩,s⟩:=B;subst s;have S5:=aa (Y.o.below (l.o t osq));have ab:=aa (aX.o.trans ((l.o t osq).mono aX.o.size));clear D r0 rk bp l;generalize Sort.grow (redrawn _ t) osq=w5 at*;cases A:xF v p.kind z
     ·have L:Hid (sbE v p=2):=aa (by rw[g.o,HZ.o,if_pos A]);clear A;go_wp2;go_ret;exact⟨by rw[L.o];rfl,S5.o.kept⟩
     have L:Hid (cdE v p.kind p.codes=cdE v p.kind (p.codes.drop (j+1))):=aa (by rw[HZ.o,Fl (by rw[A];decide)]);clear A;go_wp2
     go_roundw
     case rel=>exact⟨j+1,by omega,by go_num,L.o,ab.o⟩
     case measure=>simp[intOf];omega
    ·obtain rfl:j=m:=by omega
     have L:Hid (sbE v p=0):=aa (by rw[g.o,HC.o,<-HM.o,ox];rfl);go_wp2;go_ret;exact⟨by rw[L.o];rfl,Y.o.kept⟩
theorem LR(y:UInt8):(⟨#[y]⟩:ByteArray).size=1:=rfl
theorem L7(y:UInt8)(W:World):(convert 77 9 (.slice (some ⟨W.heap.size,0,none⟩) 1 1)).run prog (W.alloc (.cells #[.int .u8 (y.toNat:Int)] 5))= .ok (.string ⟨#[y]⟩) (W.alloc (.cells #[.int .u8 (y.toNat:Int)] 5)):=
 ni 77 9 5 underlying77 underlying5 underlying9 1 (Rd.lit W #[.int .u8 (y.toNat:Int)] 5 (xs:=bys [y]) rfl (ed _) rfl)
theorem LJ(v k:Int)(l:List Pr):ls (Hq v k l)=gP v k l:=pL v k l
theorem Nn(v:Int)(p:Pk)(h:Hs)(w:World)(ip:PkIn w w.heap.size p h)(ok:PkOk p)(hz:(sbS v p).length<=140737488351232):
  Calls prog 82 #[.int .i64 v,pkV p h] w fun e w'=>e= .returned (.tuple #[.string (sbB v p).1,.int .i64 (sbB v p).2])/\Below w.heap.size w w':=by
 have H:=aa ok;have HZ:=aa hz;have S0:=aa ((St.start w).push ip);have HE:Hid (sbB v p=if sbE v p=0 then(⟨(sbS v p).toArray⟩,0)else(⟨#[]⟩,sbE v p)):=aa rfl;clear ip ok hz;go_enter func82,ntmps82;have hl:=S0.o.ld 0 rfl
 go_wp2_with fail
 refine Yg (Kh v p h _ (S0.o.into 0 rfl) H.o) fun J t=>?_;have B:=aa (S0.o.below t);clear t hl
 by_cases E:sbE v p=0
 rotate_left
 ·have e0:(sbE v p !=0)=true:=aA.2 E;have HX:Hid (sbB v p=(⟨#[]⟩,sbE v p)):=aa (by rw[HE.o,Fl E]);clear E;go_wp2;go_ret2;exact⟨by rw[HX.o];rfl,B.o.kept⟩
 have HX:Hid (sbB v p=(⟨(sbS v p).toArray⟩,0)):=aa (by rw[HE.o,if_pos E]);have G:=aa (NU E);rw[E];clear E;obtain⟨m,hm,ba⟩:∃m:Nat,Hid (p.id.toNat=m)/\IntKind.u64.wrap p.id=(m:Int):=⟨_,aa rfl,by rw[iZ];have:=G.o.id1;have:=G.o.id2;omega⟩;have HM:Hid (m<65536):=aa (by have:=hm.out;have:=G.o.id2;omega);obtain⟨X,hX⟩:∃X:ByteArray,(⟨(Yk m 2).toArray⟩:ByteArray)=X:=⟨_,rfl⟩;have a5:X.size=2:=by rw[<-hX,GW,fM]
 obtain⟨Z,hZ⟩:∃Z:ByteArray,Hq v p.kind p.props=Z:=⟨_,rfl⟩;have a6:Z.size<=131075004:=by rw[<-hZ,<-aN,LJ];exact JM v p.kind p.props
 have ay:Hid (ls (X++Z)=Bg v p):=aa (by rw[fe,<-hX,jo,<-hZ,LJ];unfold Bg;rw[hm.out]);have q0:=jw (W:=J) (fun x hx=>GV m 2 x (by have:=HM.o;omega) (by omega) (by omega));rw[show((2:Nat):Int)=2 from rfl]at q0;rw[hX]at q0;have q1:=jw (W:=J) (fun x hx=>G5 v p.kind p.props _ rfl H.o.props h.props.a h.props.c x ((B.o.below hx).into 0 rfl).props H.o.len.2.2.2 (B.o.into 0 rfl).caps.2.2.2);rw[hZ]at q1;have k0:=cell_regrown (show J.cell? ⟨w.heap.size,0,none⟩=some (.int .i64 p.kind)from B.o.cell 0 rfl 0);have k4:=cell_regrown (show J.cell? ⟨w.heap.size,4,none⟩=some (.int .i64 p.id)from B.o.cell 0 rfl 4);have be:=cell_regrown (show J.cell? ⟨w.heap.size,24,none⟩=some (.slice h.props.a p.props.length h.props.c)from B.o.cell 0 rfl 24);have aE:¬(9223372036854775807<X.size+Z.size):=by omega
 have aw:=aa (fun d os=>B.o.below (below_regrown J d os));clear hX hZ a5 a6
 go_wp2_with fail
 refine wp_region_quiet_below (by kernel_rfl) (by kernel_rfl) ?_
 repeat (go_big_quiet_step (first| with_reducible exact q0 _ _| with_reducible exact q1 _ _))
 refine kE ?_;intro _ a9;obtain⟨⟨dq,osq⟩,aR⟩:=a9;subst aR;have S2:=aa (aw.o dq osq);clear q0 q1 k0 k4 be aw aE;generalize Sort.grow (redrawn _ dq) osq=w2 at*;obtain⟨O1,aB⟩:∃O1,X++Z=O1:=⟨_,rfl⟩;rw[aB]at ay⊢;clear aB ba;obtain⟨N,hn⟩:∃n,p.filters.length=n:=⟨_,rfl⟩;obtain⟨M,Y⟩:∃m,p.codes.length=m:=⟨_,rfl⟩;have HN:=aa hn;have P:=aa Y
 have br:N<=140737488351232:=by rw[<-hn];exact H.o.lens.2.2.1
 have bq:M<=140737488351232:=by rw[<-Y];exact H.o.lens.2.1
 clear hn Y hm;go_wp2
 go_loopw [7,8] (fun o i wr=>∃(k:Nat) (O:ByteArray),k<=N/\i= .int .i64 k/\o= .string O/\ls O=Bg v p++(p.filters.take k).flatMap (fiL p.kind)/\Below w2.heap.size w2 wr) (fun _ i _=>N- (intOf i).toNat)
 case atStart=>exact⟨0,O1,by omega,rfl,rfl,by rw[GZ,ay.o];exact(YO _).symm,aq _ _⟩
 case round=>
  obtain⟨k,O,hk,rfl,rfl,hO,D⟩:=hrel;have S3:=aa (S2.o.below D);have HO:=aa hO;have B3:=aa D
  clear hO D;have kk:=(S3.o.cell 0 rfl 0).trans (cI _ _);have s:=S3.o.cell 0 rfl 23;rw[bP,HN.o]at s
  by_cases aC:k<N
  ·have A:k<p.filters.length:=by rw[HN.o];exact aC
   obtain⟨b,o,hA,t,c0,c1,c2,c3,c4⟩:=((S3.o.into 0 rfl).filters).atF A;have aF:=H.o.topics p.filters[k] (iY A);have aD:=G.o.filters p.filters[k] (iY A);have l:=aa (PK (k:=p.kind) (List.getElem?_eq_getElem A));have q:=aa (NT (v:=v) (p:=p) (k+1));generalize p.filters[k]=f at*;have aX:=aa aF;have HV:=aa (JI aD.1);have ax:Hid (IM f.topic=(cQ f.topic,0)):=aa (by unfold IM;rw[if_pos HV.o]);rw[l.o,<-List.append_assoc,<-HO.o]at q;have L:Hid (O.size+(fiL p.kind f).length<=140737488351232):=aa (by
    have:=q.o;have:=HZ.o;rw[List.length_append,aN]at*;omega)
   have b1:(0:Int)<=(k:Int):=by omega
   have b2:(k:Int)<(N:Int):=by omega
   clear A aF aD q
   go_wp2_with fail
   refine Yg (JC f.topic _ (by have:=aX.o;omega)) fun w4 g=>?_;have C:=aa (S3.o.below g);have F:=aa (Yf B3.o g);have c0:=(g.cell (p:=⟨b,o+k*5,none⟩) t).trans c0;have c1:=(g.cell (p:=⟨b,o+k*5+1,none⟩) t).trans c1;have c2:=(g.cell (p:=⟨b,o+k*5+2,none⟩) t).trans c2;have c3:=(g.cell (p:=⟨b,o+k*5+3,none⟩) t).trans c3;have c4:=(g.cell (p:=⟨b,o+k*5+4,none⟩) t).trans c4;clear g kk s;have kk:=(C.o.cell 0 rfl 0).trans (cI _ _);have s:=C.o.cell 0 rfl 23;rw[bP,HN.o,hA]at s;rw[ax.o];simp only;have K:Hid (O.size+(cQ f.topic).size<=140737488351232):=aa (by
    have:=L.o;unfold fiL at this;rw[List.length_append,aN]at this;omega)
   obtain⟨T,hT⟩:∃T,cQ f.topic=T:=⟨_,rfl⟩;have HT:=aa hT;rw[hT]at K⊢;clear hT ax;have aE:¬(9223372036854775807<O.size+T.size):=by have:=K.o;omega
   by_cases I:p.kind=8
   ·have e8:(p.kind==8)=true:=aK.2 I;obtain⟨y,hy,r⟩:=MR (c:=BS f) (by have:=Ly f;omega);have aU:Hid (fiL p.kind f=ls T++[y]):=aa (by unfold fiL;rw[if_pos I,hy,HT.o]);have bb:IntKind.u8.wrap (y.toNat:Int)=(y.toNat:Int):=by have:=y.toNat_lt;rw[GM];omega
    have az:=aa r;clear I hy r
    go_wp2_with fail
    refine Yg (Nl f _) fun w5 R=>?_;have S5:=aa (C.o.below R);have B5:=aa (Yf F.o R);clear R kk s c0 c1 c2 c3 c4;rw[az.o];have a8:¬(9223372036854775807<O.size+T.size+(⟨#[y]⟩:ByteArray).size):=by have:=K.o;rw[LR];omega
    have a7:=L7 y w5;have u:Hid (ls (O++T++⟨#[y]⟩)=Bg v p++(p.filters.take (k+1)).flatMap (fiL p.kind)):=aa (by
     rw[l.o,<-List.append_assoc,aU.o,fe,fe,HO.o,List.append_assoc,List.append_assoc];show _=_;rw[List.append_assoc];rfl)
    have B6:=aa (B5.o.alloc B5.o.size (.cells #[.int .u8 (y.toNat:Int)] 5));go_wp2
    go_roundw
    case rel=>exact⟨k+1,_,by omega,by go_num,rfl,u.o,B6.o⟩
    case measure=>simp[intOf];omega
   ·have e8:(p.kind==8)=false:=ar.2 I;have u:Hid (ls (O++T)=Bg v p++(p.filters.take (k+1)).flatMap (fiL p.kind)):=aa (by
     rw[l.o,<-List.append_assoc,fe,HO.o];unfold fiL;rw[Fl I,YO,HT.o])
    clear I c0 c1 c2 c3 c4;go_wp2
    go_roundw
    case rel=>exact⟨k+1,_,by omega,by go_num,rfl,u.o,F.o⟩
    case measure=>simp[intOf];omega
  ·obtain rfl:k=N:=by omega
   have aV:Hid (ls O=Bg v p++p.filters.flatMap (fiL p.kind)):=aa (by rw[HO.o,<-HN.o,GK]);clear aC;go_wp2
   go_loopw [7,11] (fun o i wq=>∃(j:Nat) (U:ByteArray),j<=M/\i= .int .i64 j/\o= .string U/\ls U=Bg v p++p.filters.flatMap (fiL p.kind)++cdL (p.codes.take j)/\Below w2.heap.size w2 wq) (fun _ i _=>M- (intOf i).toNat)
   case atStart=>exact⟨0,O,by omega,rfl,rfl,by rw[GZ,aV.o];exact(YO _).symm,B3.o⟩
   case round=>
    obtain⟨j,U,hj,rfl,rfl,hU,S⟩:=hrel;have C:=aa (S2.o.below S);have HU:=aa hU;have F:=aa S
    clear hU S kk s;have bd:=C.o.cell 0 rfl 22;rw[bS,P.o]at bd
    by_cases V:j<M
    ·have A:j<p.codes.length:=by rw[P.o];exact V
     obtain⟨b,o,z,hA,t,ac,hc⟩:=((C.o.into 0 rfl).codes).atI A;have Q:=Lm (G.o.codes z (iL ac));have l:=aa (PN ac);have q:=aa (Nd (v:=v) (p:=p) (j+1));obtain⟨y,hy,r⟩:=MR Q;rw[hy]at l;have az:=aa r;rw[l.o,<-List.append_assoc,<-HU.o]at q;have L:Hid (U.size+1<=140737488351232):=aa (by
      have:=q.o;have:=HZ.o;rw[List.length_append,aN]at*;simp at*;omega)
     have bb:IntKind.u8.wrap (y.toNat:Int)=(y.toNat:Int):=by have:=y.toNat_lt;rw[GM];omega
     rw[r]at hc;have b1:(0:Int)<=(j:Int):=by omega
     have b2:(j:Int)<(M:Int):=by omega
     have a8:¬(9223372036854775807<U.size+(⟨#[y]⟩:ByteArray).size):=by have:=L.o;rw[LR];omega
     have a7:=L7 y wr;have u:Hid (ls (U++⟨#[y]⟩)=Bg v p++p.filters.flatMap (fiL p.kind)++cdL (p.codes.take (j+1))):=aa (by
      rw[l.o,fe,HU.o,List.append_assoc,List.append_assoc,List.append_assoc];rfl)
     have B5:=aa (F.o.alloc F.o.size (.cells #[.int .u8 (y.toNat:Int)] 5));clear A ac Q hy r q;go_wp2
     go_roundw
     case rel=>exact⟨j+1,_,by omega,by go_num,rfl,u.o,B5.o⟩
     case measure=>simp[intOf];omega
    ·obtain rfl:j=M:=by omega
     have aY:Hid (U=⟨(sbS v p).toArray⟩):=aa (eX (by
      rw[HU.o,<-P.o,GK,jo];rfl))
     clear V;go_wp2;go_ret2;refine⟨?_,C.o.kept⟩;have aG:=congrArg Prod.fst HX.o;have aH:=congrArg Prod.snd HX.o;simp only at aG aH;rw[aG,aH,aY.o];rfl
theorem Kf(v:Int)(p:Pk)(h:Hs)(w:World)(ip:PkIn w w.heap.size p h)(ok:PkOk p)(hk:1<=p.kind):
  Calls prog 53 #[.int .i64 v,pkV p h] w fun e w'=>e= .returned (.int .i64 (chE v p))/\Below w.heap.size w w':=by
 have c:=aa ok;have q:=aa hk
 have a:=aa ((St.start w).push ip);have j:=a.o.cell 0 rfl 0;have o:=a.o.ld 0 rfl;simp only[cI]at j;clear ip ok hk
 by_cases d:p.kind<=2
 focus
  have b:Hid (chE v p=eR v p):=aa (by unfold chE;rw[if_pos (by omega)]);have s:p.kind<=2:=by omega
  clear d;go_enter func53,ntmps53
  go_wp2_with fail
  refine(Ic v p h _ (a.o.into 0 rfl) c.o).mono ?_
 rotate_left
 by_cases f:p.kind=3
 focus
  have b:Hid (chE v p=ii v p):=aa (by unfold chE;rw[Fl (by omega),if_pos (by omega)]);have g:2<p.kind:=by omega
  have t:(p.kind==3)=true:=aK.2 (by omega);clear d f;go_enter func53,ntmps53
  go_wp2_with fail
  refine(IW v p h _ (a.o.into 0 rfl) c.o).mono ?_
 rotate_left
 by_cases i:p.kind<=7
 focus
  have b:Hid (chE v p=eS v p):=aa (by unfold chE;rw[Fl (by omega),Fl (by omega),if_pos (by omega)]);have g:2<p.kind:=by omega
  have f1:(p.kind==3)=false:=ar.2 (by omega);have u:p.kind<=7:=by omega
  clear d f i;go_enter func53,ntmps53
  go_wp2_with fail
  refine(IZ v p h _ (a.o.into 0 rfl) c.o).mono ?_
 rotate_left
 by_cases l:p.kind<=11
 focus
  have b:Hid (chE v p=sbE v p):=aa (by unfold chE;rw[Fl (by omega),Fl (by omega),Fl (by omega),if_pos (by omega)]);have g:2<p.kind:=by omega
  have f1:(p.kind==3)=false:=ar.2 (by omega);have n:7<p.kind:=by omega
  have x:p.kind<=11:=by omega
  clear d f i l;go_enter func53,ntmps53
  go_wp2_with fail
  refine(Kh v p h _ (a.o.into 0 rfl) c.o).mono ?_
 rotate_left;have b:Hid (chE v p=fH v p):=aa (by unfold chE;rw[Fl (by omega),Fl (by omega),Fl (by omega),Fl (by omega)]);have g:2<p.kind:=by omega
 have f1:(p.kind==3)=false:=ar.2 (by omega);have n:7<p.kind:=by omega
 have r:11<p.kind:=by omega
 clear d f i l;go_enter func53,ntmps53
 go_wp2_with fail
 refine(IY v p h _ (a.o.into 0 rfl) c.o).mono ?_
 all_goals
  rintro e y ⟨rfl,k⟩;have m:=aa (a.o.below k);clear k o j
  go_wp2;go_ret;exact⟨by rw[b.o];rfl,m.o.kept⟩
theorem KM(v:Int)(p:Pk)(h:Hs)(w:World)(ip:PkIn w w.heap.size p h)(ok:PkOk p)(hz:MV v p)(hk:1<=p.kind):
  Calls prog 54 #[.int .i64 v,pkV p h] w fun e w'=>e= .returned (.string (chB v p).1)/\Below w.heap.size w w':=by
 have c:=aa ok;have s:=aa hk
 have a:=aa ((St.start w).push ip);have n:=aa hz;have k:=a.o.cell 0 rfl 0;have r:=a.o.ld 0 rfl;simp only[cI]at k;clear ip ok hk hz
 by_cases d:p.kind<=2
 focus
  have b:Hid ((chB v p).1=(Dm v p).1):=aa (by unfold chB;rw[if_pos (by omega)]);have u:p.kind<=2:=by omega
  clear d;go_enter func54,ntmps54
  go_wp2_with fail
  refine(Ls v p h _ (a.o.into 0 rfl) c.o).mono ?_
 rotate_left
 by_cases f:p.kind=3
 focus
  have b:Hid ((chB v p).1=(Gf v p).1):=aa (by unfold chB;rw[Fl (by omega),if_pos (by omega)]);have g:2<p.kind:=by omega
  have x:(p.kind==3)=true:=aK.2 (by omega);clear d f;go_enter func54,ntmps54
  go_wp2_with fail
  refine(JV v p h _ (a.o.into 0 rfl) c.o).mono ?_
 rotate_left
 by_cases i:p.kind<=7
 focus
  have b:Hid ((chB v p).1=⟨(Ga v p).1.toArray⟩):=aa (by unfold chB;rw[Fl (by omega),Fl (by omega),if_pos (by omega)]);have g:2<p.kind:=by omega
  have f1:(p.kind==3)=false:=ar.2 (by omega);have y:p.kind<=7:=by omega
  clear d f i;go_enter func54,ntmps54
  go_wp2_with fail
  refine(Yt v p h _ (a.o.into 0 rfl) c.o).mono ?_
 rotate_left
 by_cases m:p.kind<=11
 focus
  have b:Hid ((chB v p).1=(sbB v p).1):=aa (by unfold chB;rw[Fl (by omega),Fl (by omega),Fl (by omega),if_pos (by omega)]);have g:2<p.kind:=by omega
  have f1:(p.kind==3)=false:=ar.2 (by omega);have q:7<p.kind:=by omega
  have z:p.kind<=11:=by omega
  have j:=n.o (by omega);clear d f i m;go_enter func54,ntmps54
  go_wp2_with fail
  refine(Nn v p h _ (a.o.into 0 rfl) c.o j).mono ?_
 rotate_left;have b:Hid ((chB v p).1=⟨(Yq v p).1.toArray⟩):=aa (by unfold chB;rw[Fl (by omega),Fl (by omega),Fl (by omega),Fl (by omega)]);have g:2<p.kind:=by omega
 have f1:(p.kind==3)=false:=ar.2 (by omega);have q:7<p.kind:=by omega
 have t:11<p.kind:=by omega
 clear d f i m;go_enter func54,ntmps54
 go_wp2_with fail
 refine(Kc v p h _ (a.o.into 0 rfl) c.o).mono ?_
 all_goals
  rintro e A ⟨rfl,l⟩;have o:=aa (a.o.below l);clear l r k
  go_wp2;go_ret;exact⟨by rw[b.o];rfl,o.o.kept⟩
def whS(v:Int)(p:Pk):ByteArray×Int:=if mqE v p=0 then((chB v p).1,0)else(⟨#[]⟩,mqE v p)
theorem Ke(v:Int)(p:Pk)(h:Hs)(w:World)(ip:PkIn w w.heap.size p h)(ok:PkOk p)(hz:MV v p):
  Calls prog 32 #[.int .i64 v,pkV p h] w fun e w'=>e= .returned (.tuple #[.string (whS v p).1,.int .i64 (whS v p).2])/\Below w.heap.size w w':=by
 have C:=aa ok;have I:=aa hz
 have c:=aa ((St.start w).push ip);have b:Hid (∀x,mqE v p=x->x≠0->whS v p=(⟨#[]⟩,x)):=aa (fun x F K=>by unfold whS;rw[Fl (by rw[F];exact K),F]);have t:Hid (mqE v p=if YG v=false then 2 else if dS v p.kind=false then 8 else if chE v p≠0 then chE v p else if 268435455<(chB v p).1.size then 4 else 0):=aa rfl;clear ip ok hz;go_enter func32,ntmps32
 go_wp2_with fail
 refine(pS v _).mono ?_;rintro e Q ⟨rfl,rfl⟩;cases f:YG v
 ·have a:Hid (whS v p=(⟨#[]⟩,2)):=aa (b.o 2 (by rw[t.o,if_pos f]) (by decide));clear f;go_wp2;go_ret2;exact⟨by rw[a.o];rfl,c.o.kept⟩
 have m:Hid (mqE v p=if dS v p.kind=false then 8 else if chE v p≠0 then chE v p else if 268435455<(chB v p).1.size then 4 else 0):=aa (by rw[t.o,Fl (by rw[f];decide)]);have H:Hid (v=4\/v=5):=aa (aR (show decide (v=4\/v=5)=true from f));have n:Hid (dS v p.kind=decide (1<=p.kind/\(p.kind<=14\/(p.kind=15/\v=5)))):=aa rfl;clear f t;have u:=c.o.cell 0 rfl 0;simp only[cI]at u;cases l:dS v p.kind
 ·have a:Hid (whS v p=(⟨#[]⟩,8)):=aa (b.o 8 (by rw[m.o,if_pos l]) (by decide));have j:¬(1<=p.kind/\(p.kind<=14\/(p.kind=15/\v=5))):=Gy (n.o.symm.trans l);have f:=H.o;have k:p.kind<1\/(1<=p.kind/\15<p.kind)\/(p.kind=15/\v=4):=by omega
  clear l j f;rcases k with k| ⟨k,y⟩ | ⟨k,y⟩
  ·go_wp2;go_ret2;exact⟨by rw[a.o];rfl,c.o.kept⟩
  ·go_wp2;go_ret2;exact⟨by rw[a.o];rfl,c.o.kept⟩
  ·rw[k]at u;have N:(v==4)=true:=aK.2 y;clear k y;go_wp2;go_ret2;exact⟨by rw[a.o];rfl,c.o.kept⟩
 have g:Hid (mqE v p=if chE v p≠0 then chE v p else if 268435455<(chB v p).1.size then 4 else 0):=aa (by rw[m.o,Fl (by rw[l];decide)]);have j:1<=p.kind/\(p.kind<=14\/(p.kind=15/\v=5)):=aR (n.o.symm.trans l);have s:Hid (1<=p.kind):=aa j.1;have O:1<=p.kind:=by omega
 have P:p.kind<=15:=by omega
 have B:(p.kind==15&&v==4)=false:=by
  rw[Kz]
  by_cases e:p.kind=15
  ·exact .inr (ar.2 (by omega))
  ·exact .inl (ar.2 e)
 have z:=c.o.ld 0 rfl;clear l j m n;have A:(p.kind==15)=false\/((p.kind==15)=true/\(v==4)=false):=by
  cases e:(p.kind==15)
  ·exact .inl rfl
  ·refine .inr ⟨rfl,?_⟩;rw[e]at B
   simpa using B
 clear B;have G:∀(X:Unit),True:=fun _=>trivial;rcases A with A| ⟨A,L⟩
 all_goals
  go_wp2_with fail
  refine Yg (Kf v p h _ (c.o.into 0 rfl) C.o s.o) fun R o=>?_;have q:=aa (c.o.below o);clear o z u
  by_cases d:chE v p=0
  rotate_left
  ·have a:Hid (whS v p=(⟨#[]⟩,chE v p)):=aa (b.o _ (by rw[g.o,if_pos d]) d);generalize chE v p=E at*;have M:(E !=0)=true:=aA.2 d;clear d g;go_wp2;go_ret2;exact⟨by rw[a.o];rfl,q.o.kept⟩
  have i:Hid (mqE v p=if 268435455<(chB v p).1.size then 4 else 0):=aa (by rw[g.o,Fl (fun x=>x d)]);rw[d];clear d g;have z:=q.o.ld 0 rfl
  go_wp2_with fail
  refine Yg (KM v p h _ (q.o.into 0 rfl) C.o I.o s.o) fun S o=>?_;have D:=aa (q.o.below o);clear o z
  by_cases r:268435455<(chB v p).1.size
  ·have a:Hid (whS v p=(⟨#[]⟩,4)):=aa (b.o 4 (by rw[i.o,if_pos r]) (by decide));have J:(268435455:Int)<((chB v p).1.size:Int):=by omega
   clear r i;go_wp2;go_ret2;exact⟨by rw[a.o];rfl,D.o.kept⟩
  ·have a:Hid (whS v p=((chB v p).1,0)):=aa (by unfold whS;rw[if_pos (by rw[i.o,Fl r])]);have J:((chB v p).1.size:Int)<=268435455:=by omega
   clear r i;go_wp2;go_ret2;exact⟨by rw[a.o];rfl,D.o.kept⟩
theorem Qm(v:Int)(p:Pk):(whS v p).2=mqE v p:=by
 unfold whS;split
 ·rename_i h;exact h.symm
 ·rfl
theorem UO(v:Int)(p:Pk)(h:Hs)(w:World)(ip:PkIn w w.heap.size p h)(ok:PkOk p)(hz:MV v p):
  Calls prog 15 #[.int .i64 v,pkV p h] w fun e w'=>e= .returned (.int .i64 (mqE v p))/\Below w.heap.size w w':=by
 have a:=(aq w.heap.size w).alloc (ac _) (.cells (pkC p h) PkT);have b:=aa a;have d:=aa (Ke v p h _ (ip.next a) ok hz);clear ip ok hz a;go_enter func15,ntmps15
 go_wp2_with fail
 refine d.o.mono ?_;rintro e g ⟨rfl,f⟩;have c:=aa (Yf b.o f);clear f;go_wp2;go_ret;exact⟨by rw[Qm];rfl,c.o⟩
end
end Go.Proofs.YtemooicddjimbaaGreatDoor
