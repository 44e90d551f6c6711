/- Parts: MSubR. -/
import Derived.Test.YtafoknnjekegkaaGreatDoorLqG0RfZ
import Derived.Test.YtafoknnjekegkaaGreatDoorLqG0MCns
set_option maxRecDepth 10000
set_option maxHeartbeats 8000000
namespace Go.Proofs.YtafoknnjekegkaaGreatDoor
open Go.RowKit Go.Proofs.Tryz
variable {W w:abP}{b:Nat}{p:Pk}
section
attribute [local go_sem ↓high] bu sD sE
attribute [local go_sem ↓] wh
attribute [local go_sem] Cv mX uw pU sR yi sQ yh sP yg pC uI pB uH pA uG py uF pu uE pm uy pj ux sY pX sX pW
theorem No(k:Int)(w:abP):abT 124 #[.int .i64 k] w (.bool (jm k)):=by
 go_enter func124,ntmps124;go_wp2
 all_goals
  go_ret;refine⟨eT ?_,rfl⟩;unfold jm;by_cases a:k=8<;>by_cases b:k=10<;>simp_all
def It(k:Int):Bool:=decide (8<=k)&&decide (k<=11)
theorem Mn(k:Int)(w:abP):abT 123 #[.int .i64 k] w (.bool (It k)):=by
 go_enter func123,ntmps123;go_wp2
 all_goals
  go_ret;refine⟨eT ?_,rfl⟩;unfold It;by_cases a:8<=k<;>by_cases b:k<=11<;>simp_all<;>omega
theorem Nm(v k c:Int)(w:abP):abR 197 #[.int .i64 v,.int .i64 k,.int .i64 c] w (.bool (xF v k c)):=by
 by_cases a:v=4
 ·have h:(v==4)=true:=aK.2 a;have b:Hid (xF v k c=tq c):=aa (if_pos a);clear a;go_enter func197,ntmps197;go_wp2_with fail;refine Yg (Lq c _) λi f=>?_;subst f;go_wp2;go_ret;exact⟨by rw[b.o];rfl,aq _ _⟩
 ·have h:(v==4)=false:=ar.2 a;have b:Hid (xF v k c=may k c):=aa (Fl a);clear a;go_enter func197,ntmps197;go_wp2_with fail;refine Yg (Ht k c _) λi d=>?_;have g:=aa d;clear d
  go_wp2;go_ret;exact⟨by rw[b.o];rfl,g.o⟩
theorem Mx(n:Int):(n.tmod 4+4) % 4=n% 4:=by
 have h:=@Int.tmod_eq_emod n 4;split at h
 ·rw[h];omega
 ·rw[h];have:(((4:Int).natAbs:Nat):Int)=4:=rfl;omega
theorem ZR(n:Int)(w:abP):abT 265 #[.int .i64 n] w (.int .i64 (n% 4)):=by
 have a:=aa (Mx n);have b:=Int.lt_tmod_of_pos n (show(0:Int)<4 by decide);have c:=Int.tmod_lt_of_pos n (show(0:Int)<4 by decide);go_enter func265,ntmps265;go_wp2;go_ret;exact⟨by rw[<-a.o];rfl,rfl⟩
theorem My{f:Fi}{q h:Int}{a b:Bool}:f=⟨f.topic,q,a,b,h⟩↔f.qos=q/\f.noLocal=a/\f.asPub=b/\f.handling=h:=by
 obtain⟨t,g,c,d,e⟩:=f;simp
theorem O0(v k:Int)(f:Fi):nT v k f=if k=10 then decide (f=⟨f.topic,0,false,false,0⟩)else if(jZ f.qos&&jZ f.handling)=false then false
  else if v=4 then(!f.noLocal&&(!f.asPub&&decide (f.handling=0)))else(!f.noLocal || !fy f.topic):=by
 unfold nT l9;by_cases a:k=10
 ·rw[if_pos a,if_pos a,<-Ij];refine qf.2 ?_;rw[My,My];exact⟨λx=>⟨x.2,x.1.2⟩,λx=>⟨⟨rfl,x.2⟩,x.1⟩⟩
 rw[Fl a,Fl a];by_cases b:v=4
 ·rw[if_pos b,if_pos b];have e:decide (f=⟨f.topic,f.qos,false,false,0⟩)=(!f.noLocal&&(!f.asPub&&decide (f.handling=0))):=by
   have:(!f.noLocal&&(!f.asPub&&decide (f.handling=0)))=decide (f.noLocal=false/\f.asPub=false/\f.handling=0):=by
    cases f.noLocal<;>cases f.asPub<;>simp
   rw[this];refine qf.2 ?_;rw[My];exact⟨λx=>x.2,λx=>⟨rfl,x⟩⟩
  rw[e];by_cases c:f.handling=0
  ·have d:jZ f.handling=true:=by rw[c];rfl
   rw[d,IK];cases jZ f.qos
   ·rw[ru,if_pos rfl]
   ·rw[IK,Fl (by decide)]
  ·rw[ah c];simp
 ·rw[Fl b,Fl b];cases jZ f.qos<;>cases jZ f.handling<;>cases fy f.topic<;>cases f.noLocal<;>rfl
theorem Lw(v k:Int)(f:Fi)(w:abP)(hs:f.topic.size<=4611686018427387904):
  abR 196 #[.int .i64 v,.int .i64 k,.agg #[.string f.topic,.int .i64 f.qos,.bool f.noLocal,.bool f.asPub,.int .i64 f.handling]] w (.bool (nT v k f)):=by
 have D:=aa hs;have c:=aa ((aq w.heap.size w).alloc (ac _) (.cells #[.string f.topic,.int .i64 f.qos,.bool f.noLocal,.bool f.asPub,.int .i64 f.handling] 49));have p:=aa (Bk.fresh w 49 #[.string f.topic,.int .i64 f.qos,.bool f.noLocal,.bool f.asPub,.int .i64 f.handling]);have u:=aa (O0 v k f);have G:=kP;have t:=λW=>mJ f ⟨f.topic,0,false,false,0⟩ W;obtain⟨z,q⟩:∃z,decide (f=⟨f.topic,0,false,false,0⟩)=z:=⟨_,rfl⟩;rw[q]at t;have C:=aa q;clear q hs;go_enter func196,ntmps196;by_cases m:k=10
 ·have F:(k==10)=true:=aK.2 m;have h:Hid (nT v k f=z):=aa (by rw[u.o,if_pos m,C.o]);clear m;go_wp2;go_ret;exact⟨by rw[h.o];rfl,c.o⟩
 have F:(k==10)=false:=ar.2 m;have g:Hid (nT v k f=if(jZ f.qos&&jZ f.handling)=false then false
  else if v=4 then(!f.noLocal&&(!f.asPub&&decide (f.handling=0)))else(!f.noLocal || !fy f.topic)):=aa (by rw[u.o,Fl m])
 clear m u;by_cases H:f.qos<0
 ·have h:Hid (nT v k f=false):=aa (by rw[g.o,if_pos (by unfold jZ;rw[ah (show ¬0<=f.qos by omega)];rfl)]);go_wp2;go_ret;exact⟨by rw[h.o];rfl,c.o⟩
 by_cases I:2<f.qos
 ·have h:Hid (nT v k f=false):=aa (by rw[g.o,if_pos (by unfold jZ;rw[ah (show ¬f.qos<3 by omega),ru];rfl)]);go_wp2;go_ret;exact⟨by rw[h.o];rfl,c.o⟩
 have n:jZ f.qos=true:=by unfold jZ;rw[au (show 0<=f.qos by omega),au (show f.qos<3 by omega)];rfl
 by_cases b1:f.handling<0
 ·have h:Hid (nT v k f=false):=aa (by rw[g.o,if_pos (by rw[n];unfold jZ;rw[ah (show ¬0<=f.handling by omega)];rfl)]);clear n;go_wp2;go_ret;exact⟨by rw[h.o];rfl,c.o⟩
 by_cases b2:2<f.handling
 ·have h:Hid (nT v k f=false):=aa (by rw[g.o,if_pos (by rw[n];unfold jZ;rw[ah (show ¬f.handling<3 by omega),ru];rfl)]);clear n;go_wp2;go_ret;exact⟨by rw[h.o];rfl,c.o⟩
 have o:Hid (nT v k f=if v=4 then(!f.noLocal&&(!f.asPub&&decide (f.handling=0)))else(!f.noLocal || !fy f.topic)):=aa (by
  rw[g.o,Fl (by rw[n,show jZ f.handling=true by unfold jZ;rw[au (show 0<=f.handling by omega),au (show f.handling<3 by omega)];rfl];decide)])
 clear n g;by_cases l:v=4
 ·have E:(v==4)=true:=aK.2 l;have d:Hid (nT v k f=(!f.noLocal&&(!f.asPub&&decide (f.handling=0)))):=aa (by rw[o.o,if_pos l]);clear l;obtain⟨j,i⟩:∃j,f.noLocal=j:=⟨_,rfl⟩;obtain⟨x,s⟩:∃x,f.asPub=x:=⟨_,rfl⟩;rw[i,s]at d p t c⊢;clear i s;cases j
  ·cases x
   ·go_wp2;go_ret;exact⟨by rw[d.o];rfl,c.o⟩
   ·go_wp2;go_ret;exact⟨by rw[d.o];rfl,c.o⟩
  ·go_wp2;go_ret;exact⟨by rw[d.o];rfl,c.o⟩
 have E:(v==4)=false:=ar.2 l;have d:Hid (nT v k f=(!f.noLocal || !fy f.topic)):=aa (by rw[o.o,Fl l]);clear l o;go_wp2_with fail;refine(KB f.topic _ D.o).mono ?_;rintro e J ⟨⟨a,b,rfl⟩,y⟩;have r:=aa (Yf c.o y);have A:=aa (Yh p.o y);clear y;have B:=A.o.cell 2;simp only[ay,aE,aB]at B;obtain⟨j,i⟩:∃j,f.noLocal=j:=⟨_,rfl⟩;rw[i]at d B⊢;clear i;generalize fy f.topic=sh at*;cases j
 ·go_wp2;go_ret;exact⟨by rw[d.o];rfl,r.o⟩
 ·go_wp2;go_ret;exact⟨by rw[d.o];rfl,r.o⟩
theorem Nl(f:Fi)(w:abP):
  abR 203 #[.agg #[.string f.topic,.int .i64 f.qos,.bool f.noLocal,.bool f.asPub,.int .i64 f.handling]] w (.int .i64 (BS f)):=by
 have b:=aa ((aq w.heap.size w).alloc (ac _) (.cells #[.string f.topic,.int .i64 f.qos,.bool f.noLocal,.bool f.asPub,.int .i64 f.handling] 49));have a:=aa (Bk.fresh w 49 #[.string f.topic,.int .i64 f.qos,.bool f.noLocal,.bool f.asPub,.int .i64 f.handling]);obtain⟨A,p⟩:∃A,f.qos% 4=A:=⟨_,rfl⟩;obtain⟨B,q⟩:∃B,f.handling% 4=B:=⟨_,rfl⟩;obtain⟨j,i⟩:∃j,f.noLocal=j:=⟨_,rfl⟩;obtain⟨c,g⟩:∃c,f.asPub=c:=⟨_,rfl⟩;have k:Hid (BS f=A+16*B+pc j 4+pc c 8):=aa (by unfold BS;rw[p,q,i,g];omega);have I:0<=A:=by omega
 have J:A<=3:=by omega
 have K:0<=B:=by omega
 have L:B<=3:=by omega
 have D:=aa p;have v:=aa q
 clear p q;rw[i,g]at a b⊢;clear i g;go_enter func203,ntmps203;go_wp2_with fail;obtain⟨W,z⟩:∃W,w.alloc (.cells #[.string f.topic,.int .i64 f.qos,.bool j,.bool c,.int .i64 f.handling] 49)=W:=⟨_,rfl⟩;rw[z]at a b⊢;clear z;have t:=jw (W:=W) (λx _=>(ZR f.qos x).mono (λe w' h=>⟨h.1,h.2▸aq _ _⟩));have u:=jw (W:=W) (λx _=>(ZR f.handling x).mono (λe w' h=>⟨h.1,h.2▸aq _ _⟩));rw[D.o]at t;rw[v.o]at u;have G:=cell_regrown (show W.cell? ⟨w.heap.size,1,none⟩=some (.int .i64 f.qos)from a.o.cell 1);have H:=cell_regrown (show W.cell? ⟨w.heap.size,4,none⟩=some (.int .i64 f.handling)from a.o.cell 4);have m:=aa (λd s=>b.o.trans ((below_regrown W d s).mono b.o.size));have n:=aa (λd s=>a.o.below (below_regrown W d s) a.o.lt);refine wp_region_quiet_below (by as_aux_lemma=>kernel_rfl) (by as_aux_lemma=>kernel_rfl) ?_
 repeat (go_big_quiet_step (first| with_reducible exact t _ _| with_reducible exact u _ _))
 refine kE ?_;intro _ C;obtain⟨⟨o,osq⟩,r⟩:=C;subst r;have l:=aa (m.o o osq);have y:=aa (n.o o osq);clear t u G H m n;generalize Sort.grow (redrawn _ o) osq=wq at*;have E:=y.o.cell 2;have F:=y.o.cell 3;simp only[ay,aE,aB]at E F;cases j
 ·cases c
  ·go_wp2;go_ret;exact⟨by rw[k.o];simp[pc],l.o⟩
  ·go_wp2;go_ret;exact⟨by rw[k.o];simp[pc],l.o⟩
 ·cases c
  ·go_wp2;go_ret;exact⟨by rw[k.o];simp[pc],l.o⟩
  ·go_wp2;go_ret;exact⟨by rw[k.o];simp[pc],l.o⟩
def rsQ(v:Int)(p:Pk):Pk:=
 if jm p.kind=true then {pk0 with kind:=p.kind,id:=p.id,props:=p.props,filters:=p.filters}
 else if p.kind=9\/v=5 then {pk0 with kind:=p.kind,id:=p.id,props:=p.props,codes:=p.codes}
 else {pk0 with kind:=p.kind,id:=p.id,props:=p.props}
def rsH(v:Int)(p:Pk)(h:Hs):Hs:=
 if jm p.kind=true then {hs0 with props:=h.props,filters:=h.filters}
 else if p.kind=9\/v=5 then {hs0 with props:=h.props,codes:=h.codes}
 else {hs0 with props:=h.props}
theorem PT{v:Int}(hv:v=4\/v=5)(hk:It p.kind=true)(h:Hs):rsQ v p=sbQ v p/\rsH v p h=sbH v p h:=by
 unfold It at hk;simp only[eh,Fx]at hk;unfold rsQ sbQ rsH sbH;by_cases a:jm p.kind=true
 ·rw[if_pos a,if_pos a,if_pos a,if_pos a];exact⟨rfl,rfl⟩
 ·rw[Fl a,Fl a,Fl a,Fl a];have d:¬(p.kind=8\/p.kind=10):=λx=>a (au x);by_cases b:p.kind=9\/v=5
  ·have c:pP v p.kind=false:=ah (λx=>by omega);rw[if_pos b,if_pos b,c,Fl (by decide),Fl (by decide)];exact⟨rfl,rfl⟩
  ·have c:pP v p.kind=true:=au ⟨by omega,by omega⟩;rw[Fl b,Fl b,if_pos c,if_pos c];exact⟨rfl,rfl⟩
theorem M6(W:abP){n:Nat}(hz:W.heap.size=n):∀q k,(zc (.pointer (some ⟨n,0,none⟩)) (pkV q k)).run prog (W.alloc (.cells (pkC pk0 hs0) PkT))= .ok () (pw (W.alloc (.cells (pkC pk0 hs0) PkT)) n (pkC q k)):=λq k=>by
 have b:=ax W pk0 q hs0 k;have d:pw (W.alloc (.cells (pkC pk0 hs0) PkT)) n (pkC q k)=W.alloc (.cells (pkC q k) PkT):=by
  have c:(pw (W.alloc (.cells (pkC pk0 hs0) PkT)) W.heap.size (pkC q k))=W.alloc (.cells (pkC q k) PkT):=by
   have f:(W.heap.push (.cells (pkC pk0 hs0) PkT (0,0))).setIfInBounds W.heap.size (.cells (pkC q k) PkT (0,0))=W.heap.push (.cells (pkC q k) PkT (0,0)):=by
    apply Il;intro i;rw[Array.getElem?_push];by_cases a:W.heap.size=i
    ·subst a;simp
    ·rw[eK a,Array.getElem?_push,Fl (λe=>a e.symm),Fl (λe=>a e.symm)]
   exact congrArg (λx=>{W with heap:=x}) f
  rw[hz]at c;exact c
 rw[hz]at b;rw[d];exact b
theorem Nk(v:Int)(p:Pk)(h:Hs)(w:abP):
  abR 194 #[.int .i64 v,pkV p h] w (pkV (rsQ v p) (rsH v p h)):=by
 have m:=ic w (.cells (pkC p h) PkT) (.cells (pkC pk0 hs0) PkT);have t:Bk ((w.alloc (.cells (pkC p h) PkT)).alloc (.cells (pkC pk0 hs0) PkT)) w.heap.size PkT (pkC p h):=(Bk.fresh w PkT (pkC p h)).alloc _;have u:Bk ((w.alloc (.cells (pkC p h) PkT)).alloc (.cells (pkC pk0 hs0) PkT)) (w.heap.size+1) PkT (pkC pk0 hs0):=by
  have:=Bk.fresh (w.alloc (.cells (pkC p h) PkT)) PkT (pkC pk0 hs0);rwa[show(w.alloc (.cells (pkC p h) PkT)).heap.size=w.heap.size+1 by simp]at this
 have r:((w.alloc (.cells (pkC p h) PkT)).alloc (.cells (pkC pk0 hs0) PkT)).heap.size=w.heap.size+2:=by simp
 generalize O:(w.alloc (.cells (pkC p h) PkT)).alloc (.cells (pkC pk0 hs0) PkT)=W at m t u r;have C:=aa m;have B:=aa t;have G:=aa u;have L:=aa r
 clear m t u;have R:=λi=>B.o.cell i;have S:=wu p.kind p.id p.props h.props.a h.props.c;have x:=Bk.fresh W PkT (pkC pk0 hs0);rw[r]at x;have s:w.heap.size+2<(W.alloc (.cells (pkC pk0 hs0) PkT)).heap.size:=x.lt;have j:Bk (W.alloc (.cells (pkC pk0 hs0) PkT)) w.heap.size PkT (pkC p h):=B.o.alloc _;have l:Bk (W.alloc (.cells (pkC pk0 hs0) PkT)) (w.heap.size+1) PkT (pkC pk0 hs0):=G.o.alloc _;have z:abQ w (W.alloc (.cells (pkC pk0 hs0) PkT)):=C.o.alloc C.o.size _;have A:=M6 W r;generalize N:W.alloc (.cells (pkC pk0 hs0) PkT)=V at s j l z A;have H:=aa j;have I:=aa l;have NB:=aa z;have M:=aa s
 clear j l z x;have f1:∀b,Bk (pw V (w.heap.size+2) b) w.heap.size PkT (pkC p h):=λb=>(uv V (w.heap.size+2) b (by omega)).trans H.o;have P:=λb=>(f1 b).cell;clear f1;have F:Hid (∀b,Bk (pw V (w.heap.size+2) b) (w.heap.size+1) PkT (pkC pk0 hs0)):=aa (λb=>(uv V (w.heap.size+2) b (by omega)).trans I.o);have Q:=λb q k=>aW (F.out b) q k;have D:Hid (∀b,abQ w (pw V (w.heap.size+2) b)):=aa (λb=>BC V (w.heap.size+2) b NB.o (by omega));go_enter func194,ntmps194;go_wp2_with fail;refine Yg (No p.kind _) λT E=>?_;subst E;cases d:jm p.kind
 focus
  by_cases f:p.kind=9
  focus
   have K:(p.kind==9)=true:=aK.2 f;have n:Hid (rsQ v p= {pk0 with kind:=p.kind,id:=p.id,props:=p.props,codes:=p.codes}):=aa (by unfold rsQ;rw[Fl (by rw[d];decide),if_pos (.inl f)]);have o:Hid (rsH v p h= {hs0 with props:=h.props,codes:=h.codes}):=aa (by unfold rsH;rw[Fl (by rw[d];decide),if_pos (.inl f)]);clear d f
  rotate_left
  focus
   have K:(p.kind==9)=false:=ar.2 f;by_cases g:v=5
   focus
    have J:(v==5)=true:=aK.2 g;have n:Hid (rsQ v p= {pk0 with kind:=p.kind,id:=p.id,props:=p.props,codes:=p.codes}):=aa (by unfold rsQ;rw[Fl (by rw[d];decide),if_pos (.inr g)]);have o:Hid (rsH v p h= {hs0 with props:=h.props,codes:=h.codes}):=aa (by unfold rsH;rw[Fl (by rw[d];decide),if_pos (.inr g)]);clear d f g
   rotate_left
   focus
    have J:(v==5)=false:=ar.2 g;have n:Hid (rsQ v p= {pk0 with kind:=p.kind,id:=p.id,props:=p.props}):=aa (by unfold rsQ;rw[Fl (by rw[d];decide),Fl (λy=>y.elim f g)]);have o:Hid (rsH v p h= {hs0 with props:=h.props}):=aa (by unfold rsH;rw[Fl (by rw[d];decide),Fl (λy=>y.elim f g)]);clear d f g
   rotate_left
  rotate_left 2
 rotate_left 3
 focus
  have n:Hid (rsQ v p= {pk0 with kind:=p.kind,id:=p.id,props:=p.props,filters:=p.filters}):=aa (by unfold rsQ;rw[if_pos d]);have o:Hid (rsH v p h= {hs0 with props:=h.props,filters:=h.filters}):=aa (by unfold rsH;rw[if_pos d]);clear d
 rotate_left
 all_goals
  go_wp2;refine abZ (fz rfl _ rfl (cO (F.out _) _ _)) rfl ?_;rw[n.o,o.o];exact⟨rfl,YQ (D.o _) (D.o _).size (IT _) _ _⟩
end
section
def gB(v:Int)(p:Pk):Bool:=YG v&&(It p.kind&&(decide (p=rsQ v p)&&(!decide (p.id<1)&&(!decide (65535<p.id)&& !(decide (v=4)&&decide (0<p.props.length))))))
theorem Qi(v:Int)(p:Pk):xY v p=(gB v p&&lj v p):=by
 unfold xY eH gB;have c:ir v p.kind=(YG v&&It p.kind):=by
  unfold ir YG It;rw[<-Ij,<-Ij]
 rw[c];cases a:YG v
 ·rfl
 cases b:It p.kind
 ·rfl
 rw[(PT (aR a) b hs0).1];cases decide (p.id<1)<;>cases decide (65535<p.id)<;>cases decide (v=4)<;>cases decide (0<p.props.length)<;>cases lj v p<;>cases decide (p=sbQ v p)<;>rfl
theorem PI{v:Int}(g:gB v p=true):lj v p= !(decide (p.filters.length+p.codes.length=0)&& !(decide (p.kind=11)&&decide (v=4))):=by
 unfold gB at g;simp only[eh]at g;obtain⟨f,e,a,-⟩:=g;have a:=aR a;rw[(PT (aR f) e hs0).1]at a;unfold It at e;simp only[eh,Fx]at e;unfold lj;cases c:jm p.kind
 ·have i:=Ib a c;rw[Fl (by decide),i];have j:¬(p.kind=8\/p.kind=10):=Gy c;cases b:pP v p.kind
  ·rw[Fl (by decide)];have d:¬(p.kind=11/\v=4):=Gy b;have:(decide (p.kind=11)&&decide (v=4))=false:=by rw[<-Ij];exact ah d
   rw[this,Bool.not_false,IK,<-decide_not];exact qf.2 (by simp only[eC];omega)
  ·rw[if_pos rfl];have d:p.kind=11/\v=4:=aR b;rw[au d.1,au d.2];simp
 ·have h:=Iz a c;rw[if_pos rfl,h];have j:p.kind=8\/p.kind=10:=aR c;rw[ah (show ¬p.kind=11 by omega),YH,Bool.not_false,IK,<-decide_not];exact qf.2 (by simp only[eC];omega)
theorem OX(v:Int)(x:gz p):gz (rsQ v p):=by
 unfold rsQ;split
 ·exact⟨ag _,ag _,x.2.2.1,x.2.2.2⟩
 ·split
  ·exact⟨ag _,x.2.1,ag _,x.2.2.2⟩
  ·exact⟨ag _,ag _,ag _,x.2.2.2⟩
theorem PZ(v:Int){B:Nat}{h:Hs}(x:PkIn w B p h):PkIn w B (rsQ v p) (rsH v p h):=by
 unfold rsQ rsH;split
 ·exact⟨Rd.nil _ _ _ _,Rd.nil _ _ _ _,x.filters,x.props,ag _,ag _,x.caps.2.2.1,x.caps.2.2.2⟩
 ·split
  ·exact⟨Rd.nil _ _ _ _,x.codes,Rd.nil _ _ _ _,x.props,ag _,x.caps.2.1,ag _,x.caps.2.2.2⟩
  ·exact⟨Rd.nil _ _ _ _,Rd.nil _ _ _ _,Rd.nil _ _ _ _,x.props,ag _,ag _,ag _,x.caps.2.2.2⟩
theorem Kh(v:Int)(p:Pk)(h:Hs)(w:abP)(ip:PkIn w w.heap.size p h)(ok:PkOk p):
  abR 126 #[.int .i64 v,pkV p h] w (.int .i64 (sbE v p)):=by
 have X:=aa ok;have G:=aa ((St.start w).push ip);have HE:Hid (sbE v p=if xY v p=false then 2 else if(aM p.kind p.props).2≠0 then(aM p.kind p.props).2
  else if fiE v p.kind p.filters≠0 then fiE v p.kind p.filters else cdE v p.kind p.codes):=aa rfl
 have HG:Hid (gB v p=(YG v&&(It p.kind&&(decide (p=rsQ v p)&&(!decide (p.id<1)&&(!decide (65535<p.id)&& !(decide (v=4)&&decide (0<p.props.length)))))))):=aa rfl;obtain⟨W,hW⟩:∃W,w.alloc (.cells (pkC p h) PkT)=W:=⟨_,rfl⟩;rw[hW]at G;clear ip ok;go_enter func126,ntmps126;go_upto_region 1 with fail
 clear hW;go_cut [44] (λa wx=>a= .bool (!gB v p)/\St w [(w.heap.size,p,h)] wx)
 case first=>
  have D:=jw (W:=W) (λx _=>(pS v x).mono (by rintro e w' ⟨rfl,rfl⟩;exact⟨rfl,aq _ _⟩));have T:=jw (W:=W) (λx _=>(Mn p.kind x).mono (by rintro e w' ⟨rfl,rfl⟩;exact⟨rfl,aq _ _⟩));have q2:=jw (W:=W) (λx _=>Nk v p h x);have U:=jw (W:=W) (λx F=>GP p (rsQ v p) h (rsH v p h) x ((G.o.below F).into 0 rfl) (PZ v ((G.o.below F).into 0 rfl)) X.o.len (OX v X.o.len));have R:=cell_regrown (show W.cell? ⟨w.heap.size,0,none⟩=some (.int .i64 p.kind)from G.o.cell 0 rfl 0);have k4:=cell_regrown (show W.cell? ⟨w.heap.size,4,none⟩=some (.int .i64 p.id)from G.o.cell 0 rfl 4);have S:=cell_regrown (show W.cell? ⟨w.heap.size,24,none⟩=some (.slice h.props.a p.props.length h.props.c)from G.o.cell 0 rfl 24);have l0:=qp (G.o.bk 0 rfl);have l:Hid (∀d J,abQ W (Sort.grow (redrawn W d) J)):=aa (λd J=>below_regrown W d J);generalize rsQ v p=Q at*;generalize rsH v p h=QH at*;cases I:YG v
  focus
   rw[I]at D;have g:Hid (gB v p=false):=aa (by rw[HG.o,I];rfl);clear I
  rotate_left;rw[I]at D;cases O:It p.kind
  focus
   rw[O]at T;have g:Hid (gB v p=false):=aa (by rw[HG.o,I,O];rfl);clear I O
  rotate_left;rw[O]at T;cases hq:decide (p=Q)
  focus
   rw[hq]at U;have g:Hid (gB v p=false):=aa (by rw[HG.o,I,O,hq];rfl);clear I O hq
  rotate_left;rw[hq]at U;have ax:Hid (gB v p=(!decide (p.id<1)&&(!decide (65535<p.id)&& !(decide (v=4)&&decide (0<p.props.length))))):=aa (by rw[HG.o,I,O,hq];rfl);clear I O hq HG;by_cases a1:p.id<1
  focus
   have x1:decide (p.id<(1:Int))=true:=au a1;have g:Hid (gB v p=false):=aa (by rw[ax.o,au a1];rfl)
  rotate_left;have x1:decide (p.id<(1:Int))=false:=ah a1;by_cases a2:65535<p.id
  focus
   have x2:decide ((65535:Int)<p.id)=true:=au a2;have g:Hid (gB v p=false):=aa (by rw[ax.o,au a2,Ra,YH,ru])
  rotate_left;have x2:decide ((65535:Int)<p.id)=false:=ah a2;have ay:Hid (gB v p= !(decide (v=4)&&decide (0<p.props.length))):=aa (by rw[ax.o,ah a1,ah a2];rfl);by_cases Z:v=4
  ·have e4:(v==4)=true:=aK.2 Z;by_cases ap:0<p.props.length
   ·have d4:decide ((0:Int)<(p.props.length:Int))=true:=au (by omega);have g:Hid (gB v p=false):=aa (by rw[ay.o,au Z,au ap];rfl);clear Z;go_wp2_with fail;refine wp_region_quiet_below (by kernel_rfl) (by kernel_rfl) ?_
    repeat (go_big_quiet_step (first| with_reducible exact D _ _| with_reducible exact T _ _| with_reducible exact q2 _ _| with_reducible exact U _ _))
    refine kE ?_;intro _ B;obtain⟨⟨t,osq⟩,s⟩:=B;subst s;have H:=aa (G.o.below (l.o t osq));clear D T q2 U l0 R k4 S l;generalize Sort.grow (redrawn _ t) osq=wq at*;go_wp2;go_meet
    case rel=>exact⟨by rw[g.o];first| rfl| (rw[au ap];rfl),H.o⟩
   ·have d4:decide ((0:Int)<(p.props.length:Int))=false:=ah (by omega);have g:Hid (gB v p=true):=aa (by rw[ay.o,ah ap,ru];rfl);clear Z;go_wp2_with fail;refine wp_region_quiet_below (by kernel_rfl) (by kernel_rfl) ?_
    repeat (go_big_quiet_step (first| with_reducible exact D _ _| with_reducible exact T _ _| with_reducible exact q2 _ _| with_reducible exact U _ _))
    refine kE ?_;intro _ B;obtain⟨⟨t,osq⟩,s⟩:=B;subst s;have H:=aa (G.o.below (l.o t osq));clear D T q2 U l0 R k4 S l;generalize Sort.grow (redrawn _ t) osq=wq at*;go_wp2;go_meet
    case rel=>exact⟨by rw[g.o];first| rfl| (rw[ah ap];rfl),H.o⟩
  focus
   have e4:(v==4)=false:=ar.2 Z;have g:Hid (gB v p=true):=aa (by rw[ay.o,ah Z,YH];rfl);clear Z
  rotate_left
  all_goals
   go_wp2_with fail;refine wp_region_quiet_below (by kernel_rfl) (by kernel_rfl) ?_
   repeat (go_big_quiet_step (first| with_reducible exact D _ _| with_reducible exact T _ _| with_reducible exact q2 _ _| with_reducible exact U _ _))
   refine kE ?_;intro _ B;obtain⟨⟨t,osq⟩,s⟩:=B;subst s;have H:=aa (G.o.below (l.o t osq));clear D T q2 U l0 R k4 S l;generalize Sort.grow (redrawn _ t) osq=wq at*;go_wp2;go_meet
   case rel=>exact⟨by rw[g.o];rfl,H.o⟩
 obtain⟨rfl,P⟩:=hcut;have u:=aa P;have an:Hid (xY v p=(gB v p&&lj v p)):=aa (Qi v p);clear P G;cases N:gB v p
 ·have g:Hid (sbE v p=2):=aa (by rw[HE.o,if_pos (by rw[an.o,N];rfl)]);clear N;go_wp2;go_ret;exact⟨by rw[g.o];rfl,u.o.kept⟩
 have HH:Hid (lj v p= !(decide (p.filters.length+p.codes.length=0)&& !(decide (p.kind=11)&&decide (v=4)))):=aa (PI N);have HP:Hid (v=4->p.props.length=0):=aa (λh4=>by
  unfold gB at N;simp only[eh]at N;have h5:=N.2.2.2.2.2;rw[au h4]at h5;by_cases h0:0<p.props.length
  ·rw[au h0]at h5;cases h5
  ·omega)
 have ao:Hid (xY v p=lj v p):=aa (by rw[an.o,N,aL]);obtain⟨n,hn⟩:∃n,p.filters.length=n:=⟨_,rfl⟩;obtain⟨m,hm⟩:∃m,p.codes.length=m:=⟨_,rfl⟩;have R:=u.o.cell 0 rfl;have r:=R 23;have q:=R 22
 rw[bP,hn]at r;rw[bS,hm]at q;have C:=(R 0).trans (cI _ _);rw[hn,hm]at HH;have HN:=aa hn;have HM:=aa hm
 have bI:n<=140737488351232:=by have:=X.o.lens.2.2.1;omega
 have bH:m<=140737488351232:=by have:=X.o.lens.2.1;omega
 clear hn hm R N an;go_upto_region 3 with fail
 go_cut [62] (λa wx=>a= .bool (!lj v p)/\St w [(w.heap.size,p,h)] wx)
 case first=>
  by_cases z:n+m=0;rotate_left
  ·have e0:((n:Int)+(m:Int)==0)=false:=ar.2 (by omega);have g:Hid (lj v p=true):=aa (by rw[HH.o,ah z];rfl);clear z;go_wp2;go_meet
   case rel=>exact⟨by rw[g.o];rfl,u.o⟩
  have e0:((n:Int)+(m:Int)==0)=true:=aK.2 (by omega);by_cases V:p.kind=11;rotate_left
  ·have e1:(p.kind==11)=false:=ar.2 V;have g:Hid (lj v p=false):=aa (by rw[HH.o,au z,ah V];rfl);clear z V;go_wp2;go_meet
   case rel=>exact⟨by rw[g.o];rfl,u.o⟩
  have e1:(p.kind==11)=true:=aK.2 V;by_cases z2:v=4
  ·have e2:(v==4)=true:=aK.2 z2;have g:Hid (lj v p=true):=aa (by rw[HH.o,au z,au V,au z2];rfl);clear z V z2;go_wp2;go_meet
   case rel=>exact⟨by rw[g.o];rfl,u.o⟩
  ·have e2:(v==4)=false:=ar.2 z2;have g:Hid (lj v p=false):=aa (by rw[HH.o,au z,au V,ah z2];rfl);clear z V z2;go_wp2;go_meet
   case rel=>exact⟨by rw[g.o];rfl,u.o⟩
 obtain⟨rfl,P⟩:=hcut;clear q r C u;have u:=aa P;clear P HH;cases hh:lj v p
 ·have g:Hid (sbE v p=2):=aa (by rw[HE.o,if_pos (by rw[ao.o,hh])]);clear hh;go_wp2;go_ret;exact⟨by rw[g.o];rfl,u.o.kept⟩
 have ac:Hid (sbE v p=if(aM p.kind p.props).2≠0 then(aM p.kind p.props).2 else if fiE v p.kind p.filters≠0 then fiE v p.kind p.filters else cdE v p.kind p.codes):=aa (by rw[HE.o,Fl (by rw[ao.o,hh];decide)]);clear hh HE ao;have C:=(u.o.cell 0 rfl 0).trans (cI _ _);have S:=(u.o.cell 0 rfl 24).trans (bR _ _);go_wp2_with fail;refine Yg (Gx v p.kind p.props _ rfl X.o.props h.props.a h.props.c _ (u.o.into 0 rfl).props X.o.len.2.2.2 (u.o.into 0 rfl).caps.2.2.2) λw2 hb=>?_;rw[Ir HP.o];have H:=aa (u.o.below hb);clear hb C S
 obtain⟨x,F⟩:∃x,(aM p.kind p.props).2=x:=⟨_,rfl⟩;rw[F]at ac⊢;clear F;by_cases F:x=0;rotate_left
 ·have g:Hid (sbE v p=x):=aa (by rw[ac.o,if_pos F]);have e0:(x !=0)=true:=aA.2 F;clear F;go_wp2;go_ret;exact⟨by rw[g.o];rfl,H.o.kept⟩
 have ad:Hid (sbE v p=if fiE v p.kind p.filters≠0 then fiE v p.kind p.filters else cdE v p.kind p.codes):=aa (by rw[ac.o,Fl (λy=>y F)]);have e0:(x !=0)=false:=by rw[F];rfl
 clear F ac;have r:=H.o.cell 0 rfl 23;have q:=H.o.cell 0 rfl 22;rw[bP,HN.o]at r;rw[bS,HM.o]at q;have C:=(H.o.cell 0 rfl 0).trans (cI _ _);go_wp2
 go_loopw [6] (λi wr=>∃k:Nat,k<=n/\i= .int .i64 k/\fiE v p.kind p.filters=fiE v p.kind (p.filters.drop k)/\abQ w2 wr) (λi _=>n- (intOf i).toNat)
 case atStart=>exact⟨0,by omega,rfl,by rw[Yl],aq _ _⟩
 case round=>
  obtain⟨k,I,rfl,a3,aD⟩:=hrel;have S3:=aa (H.o.below aD);have HF:=aa a3;have bh:=aa aD
  clear a3 C q r;have C:=(S3.o.cell 0 rfl 0).trans (cI _ _);have q:=S3.o.cell 0 rfl 22;rw[bS,HM.o]at q;have r:=S3.o.cell 0 rfl 23;rw[bP,HN.o]at r;by_cases bo:k<n
  ·have K:k<p.filters.length:=by rw[HN.o];exact bo
   obtain⟨b,o,hA,hb,c0,c1,c2,c3,c4⟩:=((S3.o.into 0 rfl).filters).atF K;have a5:=X.o.topics p.filters[k] (iY K);have aV:=aa (HF.o.trans (Yz (v:=v) (k:=p.kind) K));generalize p.filters[k]=f at*;have aY:=aa a5;have b1:(0:Int)<=(k:Int):=by omega
   have b2:(k:Int)<(n:Int):=by omega
   clear K a5;have Y:=S3;have aW:=bh;have M:=hb;go_wp2_with fail;refine Yg (Jo f.topic _ (by have:=aY.o;omega)) λw4 E=>?_;have S5:=aa (Y.o.below E);have ab:=aa (Yf aW.o E);have c0:=(E.cell (p:=⟨b,o+k*5,none⟩) M).trans c0;have c1:=(E.cell (p:=⟨b,o+k*5+1,none⟩) M).trans c1;have c2:=(E.cell (p:=⟨b,o+k*5+2,none⟩) M).trans c2;have c3:=(E.cell (p:=⟨b,o+k*5+3,none⟩) M).trans c3;have c4:=(E.cell (p:=⟨b,o+k*5+4,none⟩) M).trans c4;clear E C q r;have r:=S5.o.cell 0 rfl 23;rw[bP,HN.o,hA]at r;have C:=(S5.o.cell 0 rfl 0).trans (cI _ _);cases ae:gj f.topic
   ·have g:Hid (sbE v p=10):=aa (by
     have e:fiE v p.kind p.filters=10:=by rw[aV.o,if_pos ae]
     rw[ad.o,e,if_pos (by decide)])
    clear ae;go_wp2;go_ret;exact⟨by rw[g.o];rfl,S5.o.kept⟩
   have av:Hid (fiE v p.kind p.filters=if nT v p.kind f=false then 2 else fiE v p.kind (p.filters.drop (k+1))):=aa (by rw[aV.o,Fl (by rw[ae];decide)]);clear ae;go_wp2_with fail;have D:=jw (W:=w4) (λx _=>Lw v p.kind f x (by have:=aY.o;omega));have r0:=cell_regrown c0;have r1:=cell_regrown c1;have r2:=cell_regrown c2;have r3:=cell_regrown c3;have r4:=cell_regrown c4
   have rk:=cell_regrown C;have bq:=cell_regrown r
   have l:Hid (∀d J,abQ w4 (Sort.grow (redrawn w4 d) J)):=aa (λd J=>below_regrown w4 d J);clear c0 c1 c2 c3 c4 C r;refine wp_region_quiet_below (by kernel_rfl) (by kernel_rfl) ?_
   repeat (go_big_quiet_step (first| with_reducible exact D _ _))
   refine kE ?_;intro _ B;obtain⟨⟨t,osq⟩,s⟩:=B;subst s;have S6:=aa (S5.o.below (l.o t osq));have bg:=aa (ab.o.trans ((l.o t osq).mono ab.o.size));clear D r0 r1 r2 r3 r4 rk bq l;generalize Sort.grow (redrawn _ t) osq=w5 at*;cases A:nT v p.kind f
   ·have g:Hid (sbE v p=2):=aa (by
     have e:fiE v p.kind p.filters=2:=by rw[av.o,if_pos A]
     rw[ad.o,e,if_pos (by decide)])
    clear A;go_wp2;go_ret;exact⟨by rw[g.o];rfl,S6.o.kept⟩
   have g:Hid (fiE v p.kind p.filters=fiE v p.kind (p.filters.drop (k+1))):=aa (by rw[av.o,Fl (by rw[A];decide)]);clear A;go_wp2;go_roundw
   case rel=>exact⟨k+1,by omega,by go_num,g.o,bg.o⟩
   case measure=>simp[intOf];omega
  ·obtain rfl:k=n:=by omega
   have g:Hid (sbE v p=cdE v p.kind p.codes):=aa (by
    have e:fiE v p.kind p.filters=0:=by rw[HF.o,<-HN.o,ox];rfl
    rw[ad.o,e,Fl (λy=>y rfl)])
   clear ad HF;go_wp2
   go_loopw [7] (λi wq=>∃k:Nat,k<=m/\i= .int .i64 k/\cdE v p.kind p.codes=cdE v p.kind (p.codes.drop k)/\abQ wr wq) (λi _=>m- (intOf i).toNat)
   case atStart=>exact⟨0,by omega,rfl,by rw[Yl],aq _ _⟩
   case round=>
    obtain⟨j,hj,rfl,a0,aZ⟩:=hrel;have Y:=aa (S3.o.below aZ);have HC:=aa a0;have aX:=aa aZ
    clear a0 C q r;have C:=(Y.o.cell 0 rfl 0).trans (cI _ _);have q:=Y.o.cell 0 rfl 22;rw[bS,HM.o]at q;by_cases a9:j<m
    ·have K:j<p.codes.length:=by rw[HM.o];exact a9
     obtain⟨b,o,z,hA,hb,hz,hc⟩:=((Y.o.into 0 rfl).codes).atI K;have HZ:Hid (cdE v p.kind p.codes=if xF v p.kind z=false then 2 else cdE v p.kind (p.codes.drop (j+1))):=aa (by
      rw[HC.o,F8 K];rw[List.getElem?_eq_getElem K]at hz;rw[Option.some.inj hz])
     have b1:(0:Int)<=(j:Int):=by omega
     have b2:(j:Int)<(m:Int):=by omega
     clear K hz;go_wp2_with fail;have D:=jw (W:=wr) (λx _=>Nm v p.kind z x);have r0:=cell_regrown hc;have rk:=cell_regrown C;have bp:=cell_regrown q
     have l:Hid (∀d J,abQ wr (Sort.grow (redrawn wr d) J)):=aa (λd J=>below_regrown wr d J);clear hc C q;refine wp_region_quiet_below (by kernel_rfl) (by kernel_rfl) ?_
     repeat (go_big_quiet_step (first| with_reducible exact D _ _))
     refine kE ?_;intro _ B;obtain⟨⟨t,osq⟩,s⟩:=B;subst s;have S5:=aa (Y.o.below (l.o t osq));have ab:=aa (aX.o.trans ((l.o t osq).mono aX.o.size));clear D r0 rk bp l;generalize Sort.grow (redrawn _ t) osq=w5 at*;cases A:xF v p.kind z
     ·have L:Hid (sbE v p=2):=aa (by rw[g.o,HZ.o,if_pos A]);clear A;go_wp2;go_ret;exact⟨by rw[L.o];rfl,S5.o.kept⟩
     have L:Hid (cdE v p.kind p.codes=cdE v p.kind (p.codes.drop (j+1))):=aa (by rw[HZ.o,Fl (by rw[A];decide)]);clear A;go_wp2;go_roundw
     case rel=>exact⟨j+1,by omega,by go_num,L.o,ab.o⟩
     case measure=>simp[intOf];omega
    ·obtain rfl:j=m:=by omega
     have L:Hid (sbE v p=0):=aa (by rw[g.o,HC.o,<-HM.o,ox];rfl);go_wp2;go_ret;exact⟨by rw[L.o];rfl,Y.o.kept⟩
theorem LR(y:UInt8):(⟨#[y]⟩:abO).size=1:=rfl
theorem L7(y:UInt8)(W:abP):(convert 139 9 (.slice (some ⟨W.heap.size,0,none⟩) 1 1)).run prog (W.alloc (.cells #[.int .u8 (y.toNat:Int)] 5))= .ok (.string ⟨#[y]⟩) (W.alloc (.cells #[.int .u8 (y.toNat:Int)] 5)):=
 ni 139 9 5 underlying139 underlying5 underlying9 1 (Rd.lit W #[.int .u8 (y.toNat:Int)] 5 (xs:=bys [y]) rfl (ed _) rfl)
theorem LJ(v k:Int)(l:List Pr):ls (Hq v k l)=gP v k l:=pL v k l
theorem Nn(v:Int)(p:Pk)(h:Hs)(w:abP)(ip:PkIn w w.heap.size p h)(ok:PkOk p)(hz:(sbS v p).length<=140737488351232):
  abR 132 #[.int .i64 v,pkV p h] w (.tuple #[.string (sbB v p).1,.int .i64 (sbB v p).2]):=by
 have H:=aa ok;have HZ:=aa hz;have S0:=aa ((St.start w).push ip);have HE:Hid (sbB v p=if sbE v p=0 then(⟨(sbS v p).toArray⟩,0)else(⟨#[]⟩,sbE v p)):=aa rfl;clear ip ok hz;go_enter func132,ntmps132;have hl:=S0.o.ld 0 rfl;go_wp2_with fail;refine Yg (Kh v p h _ (S0.o.into 0 rfl) H.o) λJ t=>?_;have B:=aa (S0.o.below t);clear t hl
 by_cases E:sbE v p=0;rotate_left
 ·have e0:(sbE v p !=0)=true:=aA.2 E;have HX:Hid (sbB v p=(⟨#[]⟩,sbE v p)):=aa (by rw[HE.o,Fl E]);clear E;go_wp2;go_ret2;exact⟨by rw[HX.o];rfl,B.o.kept⟩
 have HX:Hid (sbB v p=(⟨(sbS v p).toArray⟩,0)):=aa (by rw[HE.o,if_pos E]);have G:=aa (NU E);rw[E];clear E;obtain⟨m,hm,ba⟩:∃m:Nat,Hid (p.id.toNat=m)/\IntKind.u64.wrap p.id=(m:Int):=⟨_,aa rfl,by rw[iZ];have:=G.o.id1;have:=G.o.id2;omega⟩;have HM:Hid (m<65536):=aa (by have:=hm.out;have:=G.o.id2;omega);obtain⟨X,hX⟩:∃X:abO,(⟨(Yk m 2).toArray⟩:abO)=X:=⟨_,rfl⟩;have a5:X.size=2:=by rw[<-hX,GW,fM]
 obtain⟨Z,hZ⟩:∃Z:abO,Hq v p.kind p.props=Z:=⟨_,rfl⟩;have a6:Z.size<=131075004:=by rw[<-hZ,<-aN,LJ];exact JM v p.kind p.props
 have ay:Hid (ls (X++Z)=Bg v p):=aa (by rw[fe,<-hX,jo,<-hZ,LJ];unfold Bg;rw[hm.out]);have q0:=jw (W:=J) (λx hx=>GV m 2 x (by have:=HM.o;omega) (by omega) (by omega));rw[show((2:Nat):Int)=2 from rfl]at q0;rw[hX]at q0;have q1:=jw (W:=J) (λx hx=>G5 v p.kind p.props _ rfl H.o.props h.props.a h.props.c x ((B.o.below hx).into 0 rfl).props H.o.len.2.2.2 (B.o.into 0 rfl).caps.2.2.2);rw[hZ]at q1;have k0:=cell_regrown (show J.cell? ⟨w.heap.size,0,none⟩=some (.int .i64 p.kind)from B.o.cell 0 rfl 0);have k4:=cell_regrown (show J.cell? ⟨w.heap.size,4,none⟩=some (.int .i64 p.id)from B.o.cell 0 rfl 4);have be:=cell_regrown (show J.cell? ⟨w.heap.size,24,none⟩=some (.slice h.props.a p.props.length h.props.c)from B.o.cell 0 rfl 24);have aE:¬(9223372036854775807<X.size+Z.size):=by omega
 have aw:=aa (λd os=>B.o.below (below_regrown J d os));clear hX hZ a5 a6;go_wp2_with fail;refine wp_region_quiet_below (by kernel_rfl) (by kernel_rfl) ?_
 repeat (go_big_quiet_step (first| with_reducible exact q0 _ _| with_reducible exact q1 _ _))
 refine kE ?_;intro _ a9;obtain⟨⟨dq,osq⟩,aR⟩:=a9;subst aR;have S2:=aa (aw.o dq osq);clear q0 q1 k0 k4 be aw aE;generalize Sort.grow (redrawn _ dq) osq=w2 at*;obtain⟨O1,aB⟩:∃O1,X++Z=O1:=⟨_,rfl⟩;rw[aB]at ay⊢;clear aB ba;obtain⟨N,hn⟩:∃n,p.filters.length=n:=⟨_,rfl⟩;obtain⟨M,Y⟩:∃m,p.codes.length=m:=⟨_,rfl⟩;have HN:=aa hn;have P:=aa Y
 have br:N<=140737488351232:=by rw[<-hn];exact H.o.lens.2.2.1
 have bq:M<=140737488351232:=by rw[<-Y];exact H.o.lens.2.1
 clear hn Y hm;go_wp2
 go_loopw [7,8] (λo i wr=>∃(k:Nat) (O:abO),k<=N/\i= .int .i64 k/\o= .string O/\ls O=Bg v p++(p.filters.take k).flatMap (fiL p.kind)/\abQ w2 wr) (λ_ i _=>N- (intOf i).toNat)
 case atStart=>exact⟨0,O1,by omega,rfl,rfl,by rw[GZ,ay.o];exact(YO _).symm,aq _ _⟩
 case round=>
  obtain⟨k,O,hk,rfl,rfl,hO,D⟩:=hrel;have S3:=aa (S2.o.below D);have HO:=aa hO;have B3:=aa D
  clear hO D;have kk:=(S3.o.cell 0 rfl 0).trans (cI _ _);have s:=S3.o.cell 0 rfl 23;rw[bP,HN.o]at s;by_cases aC:k<N
  ·have A:k<p.filters.length:=by rw[HN.o];exact aC
   obtain⟨b,o,hA,t,c0,c1,c2,c3,c4⟩:=((S3.o.into 0 rfl).filters).atF A;have aF:=H.o.topics p.filters[k] (iY A);have aD:=G.o.filters p.filters[k] (iY A);have l:=aa (PK (k:=p.kind) (List.getElem?_eq_getElem A));have q:=aa (NT (v:=v) (p:=p) (k+1));generalize p.filters[k]=f at*;have aX:=aa aF;have HV:=aa (JI aD.1);have ax:Hid (IM f.topic=(cQ f.topic,0)):=aa (by unfold IM;rw[if_pos HV.o]);rw[l.o,<-List.append_assoc,<-HO.o]at q;have L:Hid (O.size+(fiL p.kind f).length<=140737488351232):=aa (by
    have:=q.o;have:=HZ.o;rw[List.length_append,aN]at*;omega)
   have b1:(0:Int)<=(k:Int):=by omega
   have b2:(k:Int)<(N:Int):=by omega
   clear A aF aD q;go_wp2_with fail;refine Yg (JC f.topic _ (by have:=aX.o;omega)) λw4 g=>?_;have C:=aa (S3.o.below g);have F:=aa (Yf B3.o g);have c0:=(g.cell (p:=⟨b,o+k*5,none⟩) t).trans c0;have c1:=(g.cell (p:=⟨b,o+k*5+1,none⟩) t).trans c1;have c2:=(g.cell (p:=⟨b,o+k*5+2,none⟩) t).trans c2;have c3:=(g.cell (p:=⟨b,o+k*5+3,none⟩) t).trans c3;have c4:=(g.cell (p:=⟨b,o+k*5+4,none⟩) t).trans c4;clear g kk s;have kk:=(C.o.cell 0 rfl 0).trans (cI _ _);have s:=C.o.cell 0 rfl 23;rw[bP,HN.o,hA]at s;rw[ax.o];simp only;have K:Hid (O.size+(cQ f.topic).size<=140737488351232):=aa (by
    have:=L.o;unfold fiL at this;rw[List.length_append,aN]at this;omega)
   obtain⟨T,hT⟩:∃T,cQ f.topic=T:=⟨_,rfl⟩;have HT:=aa hT;rw[hT]at K⊢;clear hT ax;have aE:¬(9223372036854775807<O.size+T.size):=by have:=K.o;omega
   by_cases I:p.kind=8
   ·have e8:(p.kind==8)=true:=aK.2 I;obtain⟨y,hy,r⟩:=MR (c:=BS f) (by have:=Ly f;omega);have aU:Hid (fiL p.kind f=ls T++[y]):=aa (by unfold fiL;rw[if_pos I,hy,HT.o]);have bb:IntKind.u8.wrap (y.toNat:Int)=(y.toNat:Int):=by have:=y.toNat_lt;rw[GM];omega
    have az:=aa r;clear I hy r;go_wp2_with fail;refine Yg (Nl f _) λw5 R=>?_;have S5:=aa (C.o.below R);have B5:=aa (Yf F.o R);clear R kk s c0 c1 c2 c3 c4;rw[az.o];have a8:¬(9223372036854775807<O.size+T.size+(⟨#[y]⟩:abO).size):=by have:=K.o;rw[LR];omega
    have a7:=L7 y w5;have u:Hid (ls (O++T++⟨#[y]⟩)=Bg v p++(p.filters.take (k+1)).flatMap (fiL p.kind)):=aa (by
     rw[l.o,<-List.append_assoc,aU.o,fe,fe,HO.o,List.append_assoc,List.append_assoc];show _=_;rw[List.append_assoc];rfl)
    have B6:=aa (B5.o.alloc B5.o.size (.cells #[.int .u8 (y.toNat:Int)] 5));go_wp2;go_roundw
    case rel=>exact⟨k+1,_,by omega,by go_num,rfl,u.o,B6.o⟩
    case measure=>simp[intOf];omega
   ·have e8:(p.kind==8)=false:=ar.2 I;have u:Hid (ls (O++T)=Bg v p++(p.filters.take (k+1)).flatMap (fiL p.kind)):=aa (by
     rw[l.o,<-List.append_assoc,fe,HO.o];unfold fiL;rw[Fl I,YO,HT.o])
    clear I c0 c1 c2 c3 c4;go_wp2;go_roundw
    case rel=>exact⟨k+1,_,by omega,by go_num,rfl,u.o,F.o⟩
    case measure=>simp[intOf];omega
  ·obtain rfl:k=N:=by omega
   have aV:Hid (ls O=Bg v p++p.filters.flatMap (fiL p.kind)):=aa (by rw[HO.o,<-HN.o,GK]);clear aC;go_wp2
   go_loopw [7,11] (λo i wq=>∃(j:Nat) (U:abO),j<=M/\i= .int .i64 j/\o= .string U/\ls U=Bg v p++p.filters.flatMap (fiL p.kind)++cdL (p.codes.take j)/\abQ w2 wq) (λ_ i _=>M- (intOf i).toNat)
   case atStart=>exact⟨0,O,by omega,rfl,rfl,by rw[GZ,aV.o];exact(YO _).symm,B3.o⟩
   case round=>
    obtain⟨j,U,hj,rfl,rfl,hU,S⟩:=hrel;have C:=aa (S2.o.below S);have HU:=aa hU;have F:=aa S
    clear hU S kk s;have bd:=C.o.cell 0 rfl 22;rw[bS,P.o]at bd;by_cases V:j<M
    ·have A:j<p.codes.length:=by rw[P.o];exact V
     obtain⟨b,o,z,hA,t,ac,hc⟩:=((C.o.into 0 rfl).codes).atI A;have Q:=Lm (G.o.codes z (iL ac));have l:=aa (PN ac);have q:=aa (Nd (v:=v) (p:=p) (j+1));obtain⟨y,hy,r⟩:=MR Q;rw[hy]at l;have az:=aa r;rw[l.o,<-List.append_assoc,<-HU.o]at q;have L:Hid (U.size+1<=140737488351232):=aa (by
      have:=q.o;have:=HZ.o;rw[List.length_append,aN]at*;simp at*;omega)
     have bb:IntKind.u8.wrap (y.toNat:Int)=(y.toNat:Int):=by have:=y.toNat_lt;rw[GM];omega
     rw[r]at hc;have b1:(0:Int)<=(j:Int):=by omega
     have b2:(j:Int)<(M:Int):=by omega
     have a8:¬(9223372036854775807<U.size+(⟨#[y]⟩:abO).size):=by have:=L.o;rw[LR];omega
     have a7:=L7 y wr;have u:Hid (ls (U++⟨#[y]⟩)=Bg v p++p.filters.flatMap (fiL p.kind)++cdL (p.codes.take (j+1))):=aa (by
      rw[l.o,fe,HU.o,List.append_assoc,List.append_assoc,List.append_assoc];rfl)
     have B5:=aa (F.o.alloc F.o.size (.cells #[.int .u8 (y.toNat:Int)] 5));clear A ac Q hy r q;go_wp2;go_roundw
     case rel=>exact⟨j+1,_,by omega,by go_num,rfl,u.o,B5.o⟩
     case measure=>simp[intOf];omega
    ·obtain rfl:j=M:=by omega
     have aY:Hid (U=⟨(sbS v p).toArray⟩):=aa (eX (by
      rw[HU.o,<-P.o,GK,jo];rfl))
     clear V;go_wp2;go_ret2;refine⟨?_,C.o.kept⟩;have aG:=congrArg Prod.fst HX.o;have aH:=congrArg Prod.snd HX.o;simp only at aG aH;rw[aG,aH,aY.o];rfl
def fiV(f:Fi):Value:=.agg #[.string f.topic,.int .i64 f.qos,.bool f.noLocal,.bool f.asPub,.int .i64 f.handling]
theorem Tw{x:Int}{y:Nat}(h:x=1↔y=1):(x==1)=decide (y=1):=by
 by_cases e:y=1
 ·rw[au e];exact aK.2 (h.2 e)
 ·rw[ah e];exact ar.2 (λz=>e (h.1 z))
def TX(W:abP)(b:Nat)(f:Fi):abP:=
 ((((W.setCell ⟨b,0,none⟩ (.string f.topic)).setCell ⟨b,1,none⟩ (.int .i64 f.qos)).setCell ⟨b,2,none⟩ (.bool f.noLocal)).setCell ⟨b,3,none⟩ (.bool f.asPub)).setCell ⟨b,4,none⟩ (.int .i64 f.handling)
theorem Rn{f0:Fi}(h:Bk W b 49 (dI f0))(f:Fi):Bk (TX W b f) b 49 (dI f):=
 ((((h.upd 0 (.string f.topic) (cs':=dI ⟨f.topic,f0.qos,f0.noLocal,f0.asPub,f0.handling⟩) rfl).upd 1 (.int .i64 f.qos) (cs':=dI ⟨f.topic,f.qos,f0.noLocal,f0.asPub,f0.handling⟩) rfl).upd 2 (.bool f.noLocal) (cs':=dI ⟨f.topic,f.qos,f.noLocal,f0.asPub,f0.handling⟩) rfl).upd 3 (.bool f.asPub) (cs':=dI ⟨f.topic,f.qos,f.noLocal,f.asPub,f0.handling⟩) rfl).upd 4 (.int .i64 f.handling) (cs':=dI f) rfl
theorem Re{g a:Nat}{t:abO}{e:Int}(h:IC W g t a e)(hne:b≠g)(f:Fi):IC (TX W b f) g t a e:=
 ⟨((((h.1.other (λe=>hne e.symm) _).other (λe=>hne e.symm) _).other (λe=>hne e.symm) _).other (λe=>hne e.symm) _).other (λe=>hne e.symm) _,h.2⟩
theorem Q9{S:Nat->Prop}(h:Mods S w W)(hb:w.heap.size<=b)(f:Fi):Mods S w (TX W b f):=
 ((((h.set b 0 (.inr hb) _).set b 1 (.inr hb) _).set b 2 (.inr hb) _).set b 3 (.inr hb) _).set b 4 (.inr hb) _
def Rk(W:abP)(b n:Nat):abP:=
 (((W.setCell ⟨b,1,none⟩ (.int .i64 ((n:Int) % 4))).setCell ⟨b,2,none⟩ (.bool (decide (n/ 4% 2=1)))).setCell ⟨b,3,none⟩ (.bool (decide (n/ 8% 2=1)))).setCell ⟨b,4,none⟩ (.int .i64 ((n:Int) / 16% 4))
theorem Rx{T:abO}(h:Bk W b 49 (dI ⟨T,0,false,false,0⟩))(n:Nat):Bk (Rk W b n) b 49 (dI (vB T n)):=
 (((h.upd 1 (.int .i64 ((n:Int) % 4)) (cs':=dI ⟨T,((n% 4:Nat):Int),false,false,0⟩) rfl).upd 2 (.bool (decide (n/ 4% 2=1))) (cs':=dI ⟨T,((n% 4:Nat):Int),decide (n/ 4% 2=1),false,0⟩) rfl).upd 3 (.bool (decide (n/ 8% 2=1))) (cs':=dI ⟨T,((n% 4:Nat):Int),decide (n/ 4% 2=1),decide (n/ 8% 2=1),0⟩) rfl).upd 4 (.int .i64 ((n:Int) / 16% 4)) (cs':=dI (vB T n)) rfl
theorem QL{b':Nat}{t:TypeId}{cs:Array Value}(h:Bk W b' t cs)(hne:b'≠b)(n:Nat):Bk (Rk W b n) b' t cs:=(((h.other hne _).other hne _).other hne _).other hne _
theorem Rh{S:Nat->Prop}(h:Mods S w W)(hb:w.heap.size<=b)(n:Nat):Mods S w (Rk W b n):=
 (((h.set b 1 (.inr hb) _).set b 2 (.inr hb) _).set b 3 (.inr hb) _).set b 4 (.inr hb) _
theorem QU{fn:Func}{p:Tmp}(hr:fn.results= #[.cell p 49])(tmps:Array Value){g:Nat}{f:Fi}(hp:tmps.getD p undef= .pointer (some ⟨g,0,none⟩))(hb:Bk w g 49 (dI f)):
  (results fn tmps).run prog w= .ok (fiV f) w:=
 results_cell_row hr tmps w g 49 (dI f) (0,0) _ hp hb underlying49 rfl (by kernel_rfl)
theorem SJ(v k:Int)(g a:Nat)(t:abO)(w:abP)(h:IC w g t a 0)(hk:k=8\/k=10):
  Calls prog 125 #[.int .i64 v,.int .i64 k,.pointer (some ⟨g,0,none⟩)] w λe' w'=>
   e'= .returned (fiV (fiR v k t a).1)/\IC w' g t (fiR v k t a).2.1 (fiR v k t a).2.2/\Mods (λz=>z=g) w w':=by
 have p:=aa h.lt;have C0:Hid (IC (w.alloc (.cells (dI ⟨⟨#[]⟩,0,false,false,0⟩) 49)) g t a 0):=aa (h.below ((aq _ _).alloc (ac _) _));have M0:Hid (Mods (λz=>z=g) w (w.alloc (.cells (dI ⟨⟨#[]⟩,0,false,false,0⟩) 49))):=aa ((Mods.refl w).alloc _);have K0:=aa (Bk.fresh w 49 (dI ⟨⟨#[]⟩,0,false,false,0⟩));clear h;go_enter func125,ntmps125;go_wp2_with fail;refine(YC g a t 0 _ C0.o).mono ?_;rintro e1 f ⟨rfl,s,e⟩;have C1:=aa s;have M1:=aa (M0.o.trans (qb (S:=λz=>z=g) e rfl));have K1:=aa (K0.o.mods (S:=λz=>z=g) (qb e rfl) (by have:=p.o;omega));clear s e;obtain⟨U,hU⟩:∃U,rtC t a 0=U:=⟨_,rfl⟩;have HU:=aa hU;rw[hU]at C1⊢;clear hU;obtain⟨T,j,l⟩:=U;simp only at C1⊢;have C2:Hid (IC (f.alloc (.cells (dI ⟨T,0,false,false,0⟩) 49)) g t j l):=aa (C1.o.below ((aq _ _).alloc (ac _) _));have M2:=aa (M1.o.alloc (.cells (dI ⟨T,0,false,false,0⟩) 49));have q:=aa (K1.o.alloc (.cells (dI ⟨T,0,false,false,0⟩) 49));have L2:=aa (Bk.fresh f 49 (dI ⟨T,0,false,false,0⟩));have i:=aa M1.o.size;have K:=aa K1.o.lt;rcases hk with h8| aP
 focus
  subst h8;have N:Hid (fiR v 8 t a=(vB T (opR v t j l).1,(opR v t j l).2.1,(opR v t j l).2.2)):=aa (by unfold fiR;rw[if_pos rfl,HU.o]);go_wp2_with fail;refine(Qz g j t l 1 _ C2.o (by decide)).mono ?_;rintro e2 P ⟨rfl,s,e⟩;have L:=aa s;have X:=aa (M2.o.trans (qb (S:=λz=>z=g) e rfl));have W:=aa (q.o.mods (S:=λz=>z=g) (qb e rfl) (by have:=p.o;omega));have c:=aa (L2.o.mods (S:=λz=>z=g) (qb e rfl) (by have:=p.o;have:=i.o;omega));have Z:Hid (opR v t j l=(br t j l 1,(aH t j l 1).2.1,if iU v (br t j l 1)=true then fh (aH t j l 1).2.2 7 else(aH t j l 1).2.2)):=aa rfl;have hn:br t j l 1<256:=iV t j l;clear s e;generalize br t j l 1=n at*;generalize (aH t j l 1).2.1=a2 at*;generalize (aH t j l 1).2.2=x2 at*;rw[Z.o]at N;simp only at N;clear Z;have hw:IntKind.i64.wrap (n:Int)=(n:Int):=by rw[aQ];omega
  have q2:((n:Int) / 4% 2==1)=decide (n/ 4% 2=1):=Tw (by omega);have q3:((n:Int) / 8% 2==1)=decide (n/ 8% 2=1):=Tw (by omega);simp only;have aR:(63<n\/(¬63<n/\v=4/\3<n))\/(¬63<n/\(v≠4\/(v=4/\¬3<n))):=by omega
  rcases aR with V| ⟨R,ab⟩
  focus
   have HB:Hid (iU v n=true):=aa (by
    unfold iU;rcases V with o| ⟨-,o,I⟩
    ·rw[au o];rfl
    ·rw[au o,au I];simp)
   have Y:Hid (fiR v 8 t a=(vB T n,a2,fh x2 7)):=aa (by rw[N.o,if_pos HB.o]);rcases V with o| ⟨h0,o,I⟩
   focus
    have x0:decide ((63:Int)<(n:Int))=true:=au (by omega);clear o;go_wp2_with fail;refine(Qv g a2 t x2 7 _ L.o).mono ?_;rintro e4 J ⟨rfl,s,e⟩;have Q:=aa s;have M4:=aa (X.o.trans (qb (S:=λz=>z=g) e rfl));have K4:=aa (W.o.mods (S:=λz=>z=g) (qb e rfl) (by have:=p.o;omega));have d:=aa (c.o.mods (S:=λz=>z=g) (qb e rfl) (by have:=p.o;have:=i.o;omega));clear s e;have C:=d.o.free 1;have D:=d.o.free 2;have E:=d.o.free 3;have G:=d.o.free 4
    have x:=d.o.cell 1;have y:=d.o.cell 2;have A:=d.o.cell 3;have B:=d.o.cell 4
    simp only[dI,ay,aE,aB]at x y A B C D E G;go_upto_region 8 with fail
    show Code.wp _ _ _ _ (Rk J f.heap.size n);obtain⟨r,H⟩:∃r,Rk J f.heap.size n=r:=⟨_,rfl⟩;have M:IC (Rk J f.heap.size n) g t a2 (fh x2 7):=⟨QL Q.o.1 (by have:=p.o;have:=i.o;omega) n,Q.o.2⟩;have O:=Rh M4.o i.o n;have m:=QL (b:=f.heap.size) K4.o (Nat.ne_of_lt K.o) n;have u:=Rx d.o n
   rotate_left
   focus
    have x0:decide ((63:Int)<(n:Int))=false:=ah (by omega);have ad:(v==4)=true:=aK.2 o;have aT:decide ((3:Int)<(n:Int))=true:=au (by omega);clear h0 o I;go_wp2_with fail;refine(Qv g a2 t x2 7 _ L.o).mono ?_;rintro e4 J ⟨rfl,s,e⟩;have Q:=aa s;have M4:=aa (X.o.trans (qb (S:=λz=>z=g) e rfl));have K4:=aa (W.o.mods (S:=λz=>z=g) (qb e rfl) (by have:=p.o;omega));have d:=aa (c.o.mods (S:=λz=>z=g) (qb e rfl) (by have:=p.o;have:=i.o;omega));clear s e;have C:=d.o.free 1;have D:=d.o.free 2;have E:=d.o.free 3;have G:=d.o.free 4
    have x:=d.o.cell 1;have y:=d.o.cell 2;have A:=d.o.cell 3;have B:=d.o.cell 4
    simp only[dI,ay,aE,aB]at x y A B C D E G;go_upto_region 8 with fail
    show Code.wp _ _ _ _ (Rk J f.heap.size n);obtain⟨r,H⟩:∃r,Rk J f.heap.size n=r:=⟨_,rfl⟩;have M:IC (Rk J f.heap.size n) g t a2 (fh x2 7):=⟨QL Q.o.1 (by have:=p.o;have:=i.o;omega) n,Q.o.2⟩;have O:=Rh M4.o i.o n;have m:=QL (b:=f.heap.size) K4.o (Nat.ne_of_lt K.o) n;have u:=Rx d.o n
   rotate_left
  rotate_left 2
  focus
   have HB:Hid (iU v n=false):=aa (by
    unfold iU;rw[ah R];rcases ab with o| ⟨-,I⟩
    ·rw[ah o];rfl
    ·rw[ah I];simp)
   have Y:Hid (fiR v 8 t a=(vB T n,a2,x2)):=aa (by rw[N.o,Fl (by rw[HB.o];decide)]);have x0:decide ((63:Int)<(n:Int))=false:=ah (by omega);rcases ab with o| ⟨o,I⟩
   focus
    have ad:(v==4)=false:=ar.2 o;clear R o;have C:=c.o.free 1;have D:=c.o.free 2;have E:=c.o.free 3;have G:=c.o.free 4
    have x:=c.o.cell 1;have y:=c.o.cell 2;have A:=c.o.cell 3;have B:=c.o.cell 4
    simp only[dI,ay,aE,aB]at x y A B C D E G;go_upto_region 8 with fail
    show Code.wp _ _ _ _ (Rk P f.heap.size n);obtain⟨r,H⟩:∃r,Rk P f.heap.size n=r:=⟨_,rfl⟩;have M:IC (Rk P f.heap.size n) g t a2 (x2):=⟨QL L.o.1 (by have:=p.o;have:=i.o;omega) n,L.o.2⟩;have O:=Rh X.o i.o n;have m:=QL (b:=f.heap.size) W.o (Nat.ne_of_lt K.o) n;have u:=Rx c.o n
   rotate_left
   focus
    have ad:(v==4)=true:=aK.2 o;have aT:decide ((3:Int)<(n:Int))=false:=ah (by omega);clear R o I;have C:=c.o.free 1;have D:=c.o.free 2;have E:=c.o.free 3;have G:=c.o.free 4
    have x:=c.o.cell 1;have y:=c.o.cell 2;have A:=c.o.cell 3;have B:=c.o.cell 4
    simp only[dI,ay,aE,aB]at x y A B C D E G;go_upto_region 8 with fail
    show Code.wp _ _ _ _ (Rk P f.heap.size n);obtain⟨r,H⟩:∃r,Rk P f.heap.size n=r:=⟨_,rfl⟩;have M:IC (Rk P f.heap.size n) g t a2 (x2):=⟨QL L.o.1 (by have:=p.o;have:=i.o;omega) n,L.o.2⟩;have O:=Rh X.o i.o n;have m:=QL (b:=f.heap.size) W.o (Nat.ne_of_lt K.o) n;have u:=Rx c.o n
   rotate_left
  rotate_left 2
 rotate_left 4
 ·subst aP;have N:Hid (fiR v 10 t a=(⟨T,0,false,false,0⟩,j,l)):=aa (by unfold fiR;rw[Fl (by decide),HU.o]);have f0:=q.o.free 0;have f1:=q.o.free 1;have f2:=q.o.free 2;have f3:=q.o.free 3;have f4:=q.o.free 4
  have c0:=q.o.cell 0;have c1:=q.o.cell 1;have c2:=q.o.cell 2;have c3:=q.o.cell 3;have c4:=q.o.cell 4
  simp only[dI,ay,aE,aB]at c0 c1 c2 c3 c4 f0 f1 f2 f3 f4;go_wp2;refine abZ (QU rfl _ rfl (Rn q.o ⟨T,0,false,false,0⟩)) rfl ?_;rw[N.o];exact⟨rfl,Re C2.o (by have:=p.o;omega) ⟨T,0,false,false,0⟩,Q9 M2.o (ac _) ⟨T,0,false,false,0⟩⟩
 all_goals
  rw[H]at M O m u⊢;have aD:=aa M;have aG:=aa O;have aF:=aa m
  have f0:=m.free 0;have f1:=m.free 1;have f2:=m.free 2;have f3:=m.free 3;have f4:=m.free 4
  have c0:=m.cell 0;have c1:=m.cell 1;have c2:=m.cell 2;have c3:=m.cell 3;have c4:=m.cell 4
  have e0:=u.cell 0;have e1:=u.cell 1;have e2:=u.cell 2;have e3:=u.cell 3;have e4:=u.cell 4
  generalize vB T n=F at*;simp only[dI,ay,aE,aB]at c0 c1 c2 c3 c4 f0 f1 f2 f3 f4 e0 e1 e2 e3 e4;clear H M O m u C D E G x y A B q2 q3 hw;go_wp2;refine abZ (QU rfl _ rfl (Rn aF.o F)) rfl ?_;rw[Y.o];exact⟨rfl,Re aD.o (by have:=p.o;omega) F,Q9 aG.o (ac _) F⟩
end
