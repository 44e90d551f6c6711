/- Parts: MCnr. -/
import Derived.Test.YtafoknnjekegkaaGreatDoorLqG0MRft
set_option maxRecDepth 10000
set_option maxHeartbeats 8000000
namespace Go.Proofs.YtafoknnjekegkaaGreatDoor
open Go.RowKit Go.Proofs.Tryz
section
theorem MS(b:Bool)(n:Int)(w:abP):abT 199 #[.bool b,.int .i64 n] w (.int .i64 (pc b n)):=by
 cases b
 ·go_enter func199,ntmps199;go_wp2;go_ret;exact⟨rfl,rfl⟩
 ·go_enter func199,ntmps199;go_wp2;go_ret;exact⟨rfl,rfl⟩
theorem Te(v:Int)(hv:v=4\/v=5)(f:Nat)(hf:f<256)(w:abP):
  abT 178 #[.int .i64 v,.int .i64 f] w (.bool (!tu v f)):=by
 obtain⟨b1,q⟩:∃b,((f:Int) % 2==1)=b:=⟨_,rfl⟩;obtain⟨g,j⟩:∃b,((wrap64 ((f:Int) / 8)).tmod 4==3)=b:=⟨_,rfl⟩;obtain⟨h,k⟩:∃b,((wrap64 ((f:Int) / 4)).tmod 2==1)=b:=⟨_,rfl⟩;obtain⟨i,l⟩:∃b,((wrap64 ((f:Int) / 8)).tmod 8 !=0)=b:=⟨_,rfl⟩;obtain⟨a,d⟩:∃b,(wrap64 ((f:Int) / 64)==1)=b:=⟨_,rfl⟩;obtain⟨c,m⟩:∃b,(v==4)=b:=⟨_,rfl⟩;have p:Hid ((!tu v f)=(b1 || g || (!h&&i) || (c&&a))):=aa (by
  have z:wrap64 ((f:Int) / 8)=(f:Int) / 8:=by have:=aQ ((f:Int) / 8);simp only[wrap64];omega
  have y:wrap64 ((f:Int) / 4)=(f:Int) / 4:=by simp only[wrap64];omega
  have o:wrap64 ((f:Int) / 64)=(f:Int) / 64:=by simp only[wrap64];omega
  rw[z,QP (by omega)]at j l;rw[y,QP (by omega)]at k;rw[o]at d;have r:decide (f% 2=1)=b1:=by rw[<-q,eG,cH,aK];omega
  have s:decide (f/ 8% 4=3)=g:=by rw[<-j,eG,cH,aK];omega
  have t:decide (f/ 4% 2=1)=h:=by rw[<-k,eG,cH,aK];omega
  have u:decide (f/ 8% 8≠0)=i:=by rw[<-l,eG,cH,aA];omega
  have n:decide (f/ 64=1)=a:=by rw[<-d,eG,cH,aK];omega
  have x:decide (v=4)=c:=m;rw[<-abH hv hf];unfold SV;rw[r,s,t,u,n,x])
 generalize (!tu v f)=R at*;have A:(0:Int)<=(f:Int):=by omega
 clear hv hf;go_enter func178,ntmps178;cases b1
 focus
  cases g
  focus
   cases h
   focus
    cases i
    focus
     cases c;rotate_left
     focus
      cases a;rotate_left;rotate_left
     rotate_left 2
    rotate_left 3;rotate_left
   rotate_left 4
   focus
    cases c;rotate_left
    focus
     cases a;rotate_left;rotate_left
    rotate_left 2
   rotate_left 3
  rotate_left 7;rotate_left
 rotate_left 8;rotate_left
 all_goals
  go_wp2;go_ret;exact⟨by rw[p.o];rfl,rfl⟩
theorem Nz(A B C D E q:Int)(hA:0<=A/\A<=128)(hB:0<=B/\B<=64)(hC:0<=C/\C<=32)(hD:0<=D/\D<=4)(hE:0<=E/\E<=2):
  wrap64 (wrap64 (wrap64 (wrap64 (wrap64 (A+B)+C)+wrap64 ((wrap64 (q.tmod 4+4)).tmod 4*8))+D)+E)=A+B+C+q% 4*8+D+E:=by
 have e:=Int.tmod_lt_of_pos q (b:=4) (by decide);have f:=Int.lt_tmod_of_pos q (b:=4) (by decide);have g:=Int.mul_tdiv_add_tmod q 4;generalize q.tdiv 4=d at*;generalize q.tmod 4=t at*;have a:wrap64 (t+4)=t+4:=by simp only[wrap64];omega
 rw[a,QP (by omega)];have c:(t+4) % 4=q% 4:=by omega
 rw[c];simp only[wrap64];omega
theorem KE(p:Pk)(h:Hs)(w:abP):
  abR 201 #[pkV p h] w (.int .i64 (flQ p)):=by
 have o:=aa ((aq w.heap.size w).alloc (ac _) (.cells (pkC p h) PkT));have a:=Bk.fresh w PkT (pkC p h);have U:=(a.cell 0).trans (cI _ _);have E:=(a.cell 7).trans (dr _ _);have i:=(a.cell 10).trans (bW _ _);have j:=(a.cell 12).trans (YK _ _);have k:=(a.cell 14).trans (YM _ _);have l:=(a.cell 17).trans (cw _ _);have m:=(a.cell 18).trans (cu _ _)
 have r:Hid (flQ p=if p.kind=1 then pc p.hasUser 128+pc p.hasPass 64+pc p.will.retain 32+p.will.qos% 4*8+pc p.hasWill 4+pc p.clean 2 else 0):=aa rfl;clear a;go_enter func201,ntmps201;by_cases c:p.kind=1;rotate_left
 ·have S:(p.kind !=1)=true:=aA.2 c;have s:Hid (flQ p=0):=aa (by rw[r.o,Fl c]);clear c;go_wp2;go_ret;exact⟨by rw[s.o];rfl,o.o⟩
 have S:(p.kind !=1)=false:=by rw[c];rfl
 have s:Hid (flQ p=pc p.hasUser 128+pc p.hasPass 64+pc p.will.retain 32+p.will.qos% 4*8+pc p.hasWill 4+pc p.clean 2):=aa (by rw[r.o,if_pos c]);clear c r;have f:∀b n,0<=n->0<=pc b n/\pc b n<=n:=λb n X=>by unfold pc;split<;>omega
 have K:=aa (f p.hasUser 128 (by decide));have L:=aa (f p.hasPass 64 (by decide));have M:=aa (f p.will.retain 32 (by decide));have N:=aa (f p.hasWill 4 (by decide));have O:=aa (f p.clean 2 (by decide))
 clear f;go_wp2_with fail;generalize T:w.alloc (.cells (pkC p h) PkT)=W at*;clear T;have q:=fun(b:Bool) (n:Int)=>jw (W:=W) (λx _=>(MS b n x).mono (λe w' C=>⟨C.1,C.2▸aq _ _⟩));have F:=q p.hasUser 128;have G:=q p.hasPass 64;have H:=q p.will.retain 32;have I:=q p.hasWill 4;have J:=q p.clean 2
 have R:=cell_regrown E;have u:=cell_regrown i;have v:=cell_regrown j;have y:=cell_regrown k;have z:=cell_regrown l;have A:=cell_regrown m
 have g:=aa (λd V=>o.o.trans ((below_regrown W d V).mono o.o.size));clear q U E i j k l m;refine wp_region_quiet_below (by as_aux_lemma=>kernel_rfl) (by as_aux_lemma=>kernel_rfl) ?_
 repeat (go_big_quiet_step (first| with_reducible exact F _ _| with_reducible exact G _ _| with_reducible exact H _ _| with_reducible exact I _ _| with_reducible exact J _ _))
 refine kE ?_;intro _ D;obtain⟨⟨B,osq⟩,t⟩:=D;subst t;have Q:=aa (g.o B osq);clear F G H I J R u v y z A g;generalize Sort.grow (redrawn _ B) osq=wq at*;have P:=aa (Nz _ _ _ _ _ p.will.qos K.o L.o M.o N.o O.o);go_wp2;go_ret;exact⟨by rw[s.o,<-P.o];rfl,Q.o⟩
theorem He(s:abO)(w:abP)(hs:s.size<=65535):
  abR 177 #[.string s] w (.string (qE s)):=by
 have a:Hid (qE s=cQ s):=aa (if_pos hs);go_enter func177,ntmps177;go_wp2_with fail;refine Yg (Hw s _ hs) λc b=>?_;go_wp2;go_ret;exact⟨by rw[a.o];rfl,b⟩
theorem QW(g a:Nat)(t:abO)(e:Int)(w:abP)(h:IC w g t a e):
  Calls prog 180 #[.pointer (some ⟨g,0,none⟩)] w λe' w'=>e'= .returned (.string (rbC t a e).1)/\IC w' g t (rbC t a e).2.1 (rbC t a e).2.2/\w.grownBy w' (some g):=by
 have i:=aa h;have j:Hid (rbC t a e=if e≠0 then(⟨#[]⟩,a,e)else((dJ (t.extract a t.size)).1,a+(dJ (t.extract a t.size)).2.1,(dJ (t.extract a t.size)).2.2)):=aa rfl;obtain⟨⟨o,p,q⟩,u,f1,v⟩:=h.cells;have c:=aa h.2;clear h;go_enter func180,ntmps180;by_cases b:e=0;rotate_left
 ·have z:(e !=0)=true:=aA.2 b;have f:Hid (rbC t a e=(⟨#[]⟩,a,e)):=aa (by rw[j.o,if_pos b]);clear b;go_wp2;go_ret;rw[f.o];exact⟨rfl,i.o,Yn _ _⟩
 have z:(e !=0)=false:=by rw[b];rfl
 have f:Hid (rbC t a e=((dJ (t.extract a t.size)).1,a+(dJ (t.extract a t.size)).2.1,(dJ (t.extract a t.size)).2.2)):=aa (by rw[j.o,Fl (λx=>x b)]);clear b j;go_wp2_with fail;refine Yg (QZ g a t e _ i.o) λB k=>?_;have l:=aa (i.o.below k);have y:=aa (Y7 k (some g));clear k o p q u f1 v
 go_wp2_with fail;refine(QC _ _ (by rw[aj];have:=c.o;omega)).mono ?_;rintro e' C ⟨rfl,rfl⟩;have d:=aa (Bu (t.extract a t.size)).1;have m:Hid ((t.extract a t.size).size=t.size- a):=aa (by rw[aj];omega);rw[m.o]at d;clear m;generalize dJ (t.extract a t.size)=r at*;obtain⟨s,n,x⟩:=r;simp only at f d⊢;obtain⟨⟨o,p,q⟩,u,f1,v⟩:=l.o.cells;have A:IntKind.i64.wrap ((a:Int)+(n:Int))=((a+n:Nat):Int):=by rw[aQ];have:=c.o;have:=d.o;omega
 go_wp2;go_ret;rw[f.o];refine⟨rfl,⟨(l.o.1.upd 2 (.int .i64 x) (cs':=Am t a x) ?_).upd 1 (.int .i64 ((a+n:Nat):Int)) (cs':=Am t (a+n) x) ?_,by have:=c.o;have:=d.o;exact⟨by show a+n<=t.size;omega,c.o.2⟩⟩,y.o.trans ((YR _ _ _ _).trans (YR _ _ _ _))⟩
 ·simp[Am]
 ·simp[Am]
theorem YC(g a:Nat)(t:abO)(e:Int)(w:abP)(h:IC w g t a e):
  Calls prog 179 #[.pointer (some ⟨g,0,none⟩)] w λe' w'=>e'= .returned (.string (rtC t a e).1)/\IC w' g t (rtC t a e).2.1 (rtC t a e).2.2/\w.grownBy w' (some g):=by
 have i:=aa h;have j:Hid (rtC t a e=if e≠0 then(⟨#[]⟩,a,e)else((ab0 (t.extract a t.size)).1,a+(ab0 (t.extract a t.size)).2.1,(ab0 (t.extract a t.size)).2.2)):=aa rfl;obtain⟨⟨o,p,q⟩,u,f1,v⟩:=h.cells;have c:=aa h.2;clear h;go_enter func179,ntmps179;by_cases b:e=0;rotate_left
 ·have z:(e !=0)=true:=aA.2 b;have f:Hid (rtC t a e=(⟨#[]⟩,a,e)):=aa (by rw[j.o,if_pos b]);clear b;go_wp2;go_ret;rw[f.o];exact⟨rfl,i.o,Yn _ _⟩
 have z:(e !=0)=false:=by rw[b];rfl
 have f:Hid (rtC t a e=((ab0 (t.extract a t.size)).1,a+(ab0 (t.extract a t.size)).2.1,(ab0 (t.extract a t.size)).2.2)):=aa (by rw[j.o,Fl (λx=>x b)]);clear b j;go_wp2_with fail;refine Yg (QZ g a t e _ i.o) λB k=>?_;have l:=aa (i.o.below k);have y:=aa (Y7 k (some g));clear k o p q u f1 v
 go_wp2_with fail;refine(Rl _ _ (by rw[aj];have:=c.o;omega)).mono ?_;rintro e' C ⟨rfl,rfl⟩;have d:=aa (uq (t.extract a t.size)).1;have m:Hid ((t.extract a t.size).size=t.size- a):=aa (by rw[aj];omega);rw[m.o]at d;clear m;generalize ab0 (t.extract a t.size)=r at*;obtain⟨s,n,x⟩:=r;simp only at f d⊢;obtain⟨⟨o,p,q⟩,u,f1,v⟩:=l.o.cells;have A:IntKind.i64.wrap ((a:Int)+(n:Int))=((a+n:Nat):Int):=by rw[aQ];have:=c.o;have:=d.o;omega
 go_wp2;go_ret;rw[f.o];refine⟨rfl,⟨(l.o.1.upd 2 (.int .i64 x) (cs':=Am t a x) ?_).upd 1 (.int .i64 ((a+n:Nat):Int)) (cs':=Am t (a+n) x) ?_,by have:=c.o;have:=d.o;exact⟨by show a+n<=t.size;omega,c.o.2⟩⟩,y.o.trans ((YR _ _ _ _).trans (YR _ _ _ _))⟩
 ·simp[Am]
 ·simp[Am]
attribute [local go_sem ↓high] bu sD sE
attribute [local go_sem ↓] wh
attribute [local go_sem] Cv mX pU pB py
theorem NX(k:Int)(b:Bool)(c:Int)(l:List Pr)(A:Option Addr)(n:Nat)(w:abP):(qP #[(0,.int .i64 k),(16,.bool b),(17,.int .i64 c),(20,.slice A l.length n)]).run prog w= .ok (pkV {pk0 with kind:=k,props:=l,session:=b,code:=c} {hs0 with props:=⟨A,n⟩}) w:=by kernel_rfl
theorem NW(k:Int)(c:Bool)(a:Int)(s:abO)(u p o:Bool)(l:List Pr)(A:Option Addr)(n:Nat)(w:abP):(qP #[(0,.int .i64 k),(7,.bool c),(8,.int .i64 a),(9,.string s),(10,.bool u),(12,.bool p),(14,.bool o),(20,.slice A l.length n)]).run prog w= .ok (pkV {pk0 with kind:=k,props:=l,clean:=c,alive:=a,client:=s,hasUser:=u,hasPass:=p,hasWill:=o} {hs0 with props:=⟨A,n⟩}) w:=by kernel_rfl
theorem LK(v:Int)(p:Pk)(h:Hs)(w:abP):
  abR 251 #[.int .i64 v,pkV p h] w (pkV (kS p) (qJ p h)):=by
 have l:=ic w (.cells (pkC p h) PkT) (.cells (pkC pk0 hs0) PkT);have s:Bk ((w.alloc (.cells (pkC p h) PkT)).alloc (.cells (pkC pk0 hs0) PkT)) w.heap.size PkT (pkC p h):=(Bk.fresh w PkT (pkC p h)).alloc _;have t:Bk ((w.alloc (.cells (pkC p h) PkT)).alloc (.cells (pkC pk0 hs0) PkT)) (w.heap.size+1) PkT (pkC pk0 hs0):=by
  have:=Bk.fresh (w.alloc (.cells (pkC p h) PkT)) PkT (pkC pk0 hs0);rwa[show(w.alloc (.cells (pkC p h) PkT)).heap.size=w.heap.size+1 by simp]at this
 have f:((w.alloc (.cells (pkC p h) PkT)).alloc (.cells (pkC pk0 hs0) PkT)).heap.size=w.heap.size+2:=by simp
 generalize hW:(w.alloc (.cells (pkC p h) PkT)).alloc (.cells (pkC pk0 hs0) PkT)=W at l s t f;have m:=aa l;have D:=aa s;have z:=aa t;have Y:=aa f
 clear l s t;have k1:=λi=>D.o.cell i;have st:=λq k=>aW z.o q k;have X:=NX p.kind p.session p.code p.props h.props.a h.props.c;have L:=NW p.kind p.clean p.alive p.client p.hasUser p.hasPass p.hasWill p.props h.props.a h.props.c;by_cases d:p.kind=2
 ·have T:(p.kind==2)=true:=aK.2 d;have M:Hid (qJ p h= {hs0 with props:=h.props}):=aa (by unfold qJ;rw[Fl (λy=>y.1 d)];rfl);have N:Hid (kS p= {pk0 with kind:=p.kind,props:=p.props,session:=p.session,code:=p.code}):=aa (qI d);clear d L f;go_enter func251,ntmps251;go_wp2;refine abZ (fz rfl _ rfl (cO z.o _ _)) rfl ?_;rw[M.o,N.o];exact⟨rfl,YQ m.o m.o.size (IT _) _ _⟩
 ·have T:(p.kind==2)=false:=ar.2 d;have E:=aa d;have P:Hid (qJ p h= {hs0 with props:=h.props,wp:=(if p.hasWill=true then h.wp else hd0)}):=aa (by
   unfold qJ;by_cases o:p.hasWill=true
   ·rw[if_pos ⟨d,o⟩,if_pos o]
   ·rw[Fl (λy=>o y.2),Fl o])
  have u:=Bk.fresh W PkT (pkC pk0 hs0);rw[f]at u;have r:w.heap.size+2<(W.alloc (.cells (pkC pk0 hs0) PkT)).heap.size:=u.lt;have g:Bk (W.alloc (.cells (pkC pk0 hs0) PkT)) w.heap.size PkT (pkC p h):=D.o.alloc _;have j:Bk (W.alloc (.cells (pkC pk0 hs0) PkT)) (w.heap.size+1) PkT (pkC pk0 hs0):=z.o.alloc _;have A:abQ w (W.alloc (.cells (pkC pk0 hs0) PkT)):=m.o.alloc m.o.size _;have C:∀q k,(zc (.pointer (some ⟨w.heap.size+2,0,none⟩)) (pkV q k)).run prog (W.alloc (.cells (pkC pk0 hs0) PkT))= .ok () (pw (W.alloc (.cells (pkC pk0 hs0) PkT)) (w.heap.size+2) (pkC q k)):=λq k=>by
   have G:=ax W pk0 q hs0 k;have d:pw (W.alloc (.cells (pkC pk0 hs0) PkT)) (w.heap.size+2) (pkC q k)=W.alloc (.cells (pkC q k) PkT):=by
    have J:(pw (W.alloc (.cells (pkC pk0 hs0) PkT)) W.heap.size (pkC q k))=W.alloc (.cells (pkC q k) PkT):=by
     have U:(W.heap.push (.cells (pkC pk0 hs0) PkT (0,0))).setIfInBounds W.heap.size (.cells (pkC q k) PkT (0,0))=W.heap.push (.cells (pkC q k) PkT (0,0)):=by
      apply Il;intro i;rw[Array.getElem?_push];by_cases n:W.heap.size=i
      ·subst n;simp
      ·rw[eK n,Array.getElem?_push,Fl (λe=>n e.symm),Fl (λe=>n e.symm)]
     exact congrArg (λx=>{W with heap:=x}) U
    rw[f]at J;exact J
   rw[f]at G;rw[d];exact G
  generalize hV:W.alloc (.cells (pkC pk0 hs0) PkT)=V at r g j A C;have R:=aa g;have S:=aa j;have NB:=aa A;have Z:=aa r
  clear g j A u d X;have f1:∀b,Bk (pw V (w.heap.size+2) b) w.heap.size PkT (pkC p h):=λb=>(uv V (w.heap.size+2) b (by omega)).trans R.o;have j1:=λb=>(f1 b).cell;have jl:=λb=>Gj (f1 b);clear f1;have K:Hid (∀b,Bk (pw V (w.heap.size+2) b) (w.heap.size+1) PkT (pkC pk0 hs0)):=aa (λb=>(uv V (w.heap.size+2) b (by omega)).trans S.o);have js:=λb q k=>aW (K.out b) q k;have F:Hid (∀b,abQ w (pw V (w.heap.size+2) b)):=aa (λb=>BC V (w.heap.size+2) b NB.o (by omega));go_enter func251,ntmps251;cases B:p.hasWill<;>cases H:p.hasUser<;>cases I:p.hasPass
  all_goals
   have Q:=aa (vJ E.o B H I);have O:=aa B;rw[B,H,I]at L;go_wp2;refine abZ (fz rfl _ rfl (cO (K.out _) _ _)) rfl ?_;refine⟨?_,YQ (F.o _) (F.o _).size (IT _) _ _⟩;rw[Q.o];rw[P.o,O.o];rfl
theorem LU{b:Bool}{p:Pk}(hn:b=decide (0<=p.alive/\p.alive<65536/\0<=p.will.qos/\p.will.qos<=2)):
   (¬0<=p.alive/\b=false)\/(0<=p.alive/\¬p.alive<65536/\b=false)\/(0<=p.alive/\p.alive<65536/\¬0<=p.will.qos/\b=false)\/(0<=p.alive/\p.alive<65536/\0<=p.will.qos/\b=decide (p.will.qos<=2)):=by
 rw[hn];by_cases a:0<=p.alive
 ·by_cases c:p.alive<65536
  ·by_cases d:0<=p.will.qos
   ·exact .inr (.inr (.inr ⟨a,c,d,qf.2 ⟨λy=>y.2.2.2,λy=>⟨a,c,d,y⟩⟩⟩))
   ·exact .inr (.inr (.inl ⟨a,c,d,ah (λy=>d y.2.2.1)⟩))
  ·exact .inr (.inl ⟨a,c,ah (λy=>c y.2.1)⟩)
 ·exact .inl ⟨a,ah (λy=>a y.1)⟩
theorem KH(v:Int)(p:Pk)(h:Hs)(w:abP)(ip:PkIn w w.heap.size p h)(ok:PkOk p):
  abR 184 #[.int .i64 v,pkV p h] w (.bool (kT v p)):=by
 have OK:=aa ok;have s:=aa ((St.start w).push ip);have U:(w.alloc (.cells (pkC p h) PkT)).heap.size=w.heap.size+1:=by simp
 generalize hW:w.alloc (.cells (pkC p h) PkT)=W at s U;have HZ:=aa U;clear U
 have X:Hid (kT v p=(YG v&&(gm p.kind&&(decide (p=kS p)&&dU v p)))):=aa rfl;have r:Hid (dU v p=if v=4/\0<p.props.length+p.will.props.length then false
  else if p.kind=2 then i9 v p&&(decide (p.code=0) || !p.session)
  else if v=4/\((p.client.size=0/\p.clean=false)\/(p.hasPass=true/\p.hasUser=false))then false
  else decide (0<=p.alive/\p.alive<65536/\0<=p.will.qos/\p.will.qos<=2)):=aa rfl
 have Q:=kR p.client;have C:=jw (W:=W) (λx c=>(pS v x).mono (by rintro e w' ⟨rfl,rfl⟩;exact⟨rfl,aq _ _⟩));have M:=jw (W:=W) (λx c=>LK v p h x);have H:=jw (W:=W) (λx c=>GP p (kS p) h (qJ p h) x ((s.o.below c).into 0 rfl) (E6 ((s.o.below c).into 0 rfl)) OK.o.len (Dl OK.o.len));have G:=cell_regrown (show W.cell? ⟨w.heap.size,0,none⟩=some (.int .i64 p.kind)from s.o.cell 0 rfl 0);have l0:=qp (s.o.bk 0 rfl);have o:Hid (∀d os,abQ W (Sort.grow (redrawn W d) os)):=aa (λd os=>below_regrown W d os);clear ip ok;go_enter func184,ntmps184;cases D:YG v
 focus
  rw[D]at C;have a:Hid (kT v p=false):=aa (by rw[X.o,D,YH]);clear D
 rotate_left;rw[D]at C;have HV:Hid (v=4\/v=5):=aa (aR D);have N:Hid (kT v p=(gm p.kind&&(decide (p=kS p)&&dU v p))):=aa (by rw[X.o,D,aL]);clear D X;cases E:gm p.kind
 focus
  have a:Hid (kT v p=false):=aa (by rw[N.o,E,YH]);have n1:(p.kind !=1)=true:=aA.2 (λy=>by have:=Gy E;exact this (.inl y));have n2:(p.kind !=2)=true:=aA.2 (λy=>by have:=Gy E;exact this (.inr y));clear E
 rotate_left;have HO:=aa (aR E);have I:Hid (kT v p=(decide (p=kS p)&&dU v p)):=aa (by rw[N.o,E,aL]);clear E N;obtain⟨sm,T⟩:∃b:Bool,decide (p=kS p)=b:=⟨_,rfl⟩;rw[T]at H;have J:=aa T;clear T
 by_cases A:p.kind=2
 focus
  have n1:(p.kind !=1)=true:=aA.2 (by omega);have n2:(p.kind !=2)=false:=by simp[A]
  have e2:(p.kind==2)=true:=aK.2 A;have K:=aa A;clear A;cases sm
  focus
   have a:Hid (kT v p=false):=aa (by rw[I.o,J.o,YH])
  rotate_left;have i:Hid (kT v p=dU v p):=aa (by rw[I.o,J.o,aL]);go_wp2_with fail;refine wp_region_quiet_below (by kernel_rfl) (by kernel_rfl) ?_
  repeat (go_big_quiet_step (first| with_reducible exact C _ _| with_reducible exact M _ _| with_reducible exact H _ _))
  refine kE ?_;intro _ B;obtain⟨⟨z,osq⟩,n⟩:=B;subst n;have f:=aa (s.o.below (o.o z osq));clear C M H G l0 o;generalize Sort.grow (redrawn _ z) osq=wq at*;have G:=f.o.cell 0 rfl;rcases HV.o with g| g
  ·have e4:(v==4)=true:=aK.2 g;have e5:(v==5)=false:=ar.2 (by omega);by_cases hp:0<p.props.length
   ·have a:Hid (kT v p=false):=aa (by rw[i.o,r.o,if_pos ⟨g,by omega⟩]);clear g;go_wp2;go_ret;exact⟨by rw[a.o];rfl,f.o.kept⟩
   by_cases hw:0<p.will.props.length
   ·have a:Hid (kT v p=false):=aa (by rw[i.o,r.o,if_pos ⟨g,by omega⟩]);clear g;go_wp2;go_ret;exact⟨by rw[a.o];rfl,f.o.kept⟩
   have l:¬(v=4/\0<p.props.length+p.will.props.length):=λy=>by omega
   have j:Hid (kT v p=(ww p.code&&(decide (p.code=0) || !p.session))):=aa (by rw[i.o,r.o,Fl l,if_pos K.o];unfold i9;rw[if_pos g]);clear g l;go_wp2_with fail;refine Yg (KD p.code _) λw3 V=>?_;subst V;have t:=f;cases k:ww p.code
   ·have a:Hid (kT v p=false):=aa (by rw[j.o,k];rfl);clear k;go_wp2;go_ret;exact⟨by rw[a.o];rfl,t.o.kept⟩
   by_cases F:p.session=true
   ·have a:Hid (kT v p=decide (p.code=0)):=aa (by rw[j.o,k,F];simp);clear k;have hd:decide (p.code=0)=(p.code==0):=by rfl
    go_wp2;go_ret;exact⟨by rw[a.o];first| rfl| simp,t.o.kept⟩
   ·have S:p.session=false:=by simpa using F
    have a:Hid (kT v p=true):=aa (by rw[j.o,k,S];simp);clear k F;go_wp2;go_ret;exact⟨by rw[a.o];rfl,t.o.kept⟩
  ·have e4:(v==4)=false:=ar.2 (by omega);have e5:(v==5)=true:=aK.2 g;have l:¬(v=4/\0<p.props.length+p.will.props.length):=λy=>by omega
   have j:Hid (kT v p=(may 2 p.code&&(decide (p.code=0) || !p.session))):=aa (by rw[i.o,r.o,Fl l,if_pos K.o];unfold i9;rw[Fl (λy=>by omega),K.o]);clear g l;go_wp2_with fail;refine Yg (Ht 2 p.code _) λw3 V=>?_;have t:=aa (f.o.below V);clear V G
   have G:=t.o.cell 0 rfl;cases k:may 2 p.code
   ·have a:Hid (kT v p=false):=aa (by rw[j.o,k];rfl);clear k;go_wp2;go_ret;exact⟨by rw[a.o];rfl,t.o.kept⟩
   by_cases F:p.session=true
   ·have a:Hid (kT v p=decide (p.code=0)):=aa (by rw[j.o,k,F];simp);clear k;have hd:decide (p.code=0)=(p.code==0):=by rfl
    go_wp2;go_ret;exact⟨by rw[a.o];first| rfl| simp,t.o.kept⟩
   ·have S:p.session=false:=by simpa using F
    have a:Hid (kT v p=true):=aa (by rw[j.o,k,S];simp);clear k F;go_wp2;go_ret;exact⟨by rw[a.o];rfl,t.o.kept⟩
 rotate_left
 focus
  have n1:(p.kind !=1)=false:=by have:p.kind=1:=HO.o.resolve_right A;simp[this]
  have e2:(p.kind==2)=false:=ar.2 A;have K:=aa A;clear A;cases sm
  focus
   have a:Hid (kT v p=false):=aa (by rw[I.o,J.o,YH])
  rotate_left;have i:Hid (kT v p=dU v p):=aa (by rw[I.o,J.o,aL]);go_wp2_with fail;refine wp_region_quiet_below (by kernel_rfl) (by kernel_rfl) ?_
  repeat (go_big_quiet_step (first| with_reducible exact C _ _| with_reducible exact M _ _| with_reducible exact H _ _))
  refine kE ?_;intro _ B;obtain⟨⟨z,osq⟩,n⟩:=B;subst n;have f:=aa (s.o.below (o.o z osq));clear C M H G l0 o;generalize Sort.grow (redrawn _ z) osq=wq at*;have G:=f.o.cell 0 rfl;rcases HV.o with g| g
  ·have e4:(v==4)=true:=aK.2 g;have e5:(v==5)=false:=ar.2 (by omega);by_cases hp:0<p.props.length
   ·have a:Hid (kT v p=false):=aa (by rw[i.o,r.o,if_pos ⟨g,by omega⟩]);clear g;go_wp2;go_ret;exact⟨by rw[a.o];rfl,f.o.kept⟩
   by_cases hw:0<p.will.props.length
   ·have a:Hid (kT v p=false):=aa (by rw[i.o,r.o,if_pos ⟨g,by omega⟩]);clear g;go_wp2;go_ret;exact⟨by rw[a.o];rfl,f.o.kept⟩
   have l:¬(v=4/\0<p.props.length+p.will.props.length):=λy=>by omega
   have j:Hid (kT v p=if v=4/\((p.client.size=0/\p.clean=false)\/(p.hasPass=true/\p.hasUser=false))then false
    else decide (0<=p.alive/\p.alive<65536/\0<=p.will.qos/\p.will.qos<=2)):=aa (by rw[i.o,r.o,Fl l,Fl K.o])
   have H4:=aa g;clear g l;by_cases L:p.client.size=0/\p.clean=false
   ·have a:Hid (kT v p=false):=aa (j.o.trans (if_pos ⟨H4.o,.inl L⟩));obtain⟨an,aH⟩:=L;rw[au an]at Q;go_wp2;go_ret;exact⟨by rw[a.o];rfl,f.o.kept⟩
   by_cases R:p.hasPass=true/\p.hasUser=false
   ·have a:Hid (kT v p=false):=aa (j.o.trans (if_pos ⟨H4.o,.inr R⟩));obtain⟨aI,aJ⟩:=R;clear L;go_wp2
    all_goals
     go_ret;exact⟨by rw[a.o];rfl,f.o.kept⟩
   have Y:=aa (LU (j.o.trans (Fl (λy=>y.2.elim L R))));have Z:((p.client.toList.isEmpty=true/\p.clean=true)\/p.client.toList.isEmpty=false)/\((p.hasPass=true/\p.hasUser=true)\/p.hasPass=false):=by
    rw[Q];constructor
    ·by_cases P:p.client.size=0
     ·cases c1:p.clean
      ·exact absurd ⟨P,c1⟩ L
      ·exact .inl ⟨au P,rfl⟩
     ·exact .inr (ah P)
    ·cases P:p.hasPass
     ·exact .inr rfl
     ·cases c1:p.hasUser
      ·exact absurd ⟨P,c1⟩ R
      ·exact .inl ⟨rfl,rfl⟩
   clear L R Q;obtain⟨Z1,Z2⟩:=Z;rcases Z1 with ⟨z1,z2⟩ | z1<;>rcases Z2 with ⟨z3,z4⟩ | z3
   all_goals
    rcases Y.o with ⟨q,c⟩ | ⟨q,m,c⟩ | ⟨q,m,O,c⟩ | ⟨q,m,O,c⟩
    ·have a:=aa c;have ak:p.alive<0:=by omega
     clear c q;go_wp2;go_ret;exact⟨by rw[a.o];rfl,f.o.kept⟩
    ·have a:=aa c;have u:¬p.alive<=65535:=by omega
     clear c m;go_wp2;go_ret;exact⟨by rw[a.o];rfl,f.o.kept⟩
    ·have a:=aa c;have u:p.alive<=65535:=by omega
     have am:p.will.qos<0:=by omega
     clear c m O;go_wp2;go_ret;exact⟨by rw[a.o];rfl,f.o.kept⟩
    ·have a:=aa c;have u:p.alive<=65535:=by omega
     clear c m;go_wp2;go_ret;exact⟨by rw[a.o];rfl,f.o.kept⟩
  ·have e4:(v==4)=false:=ar.2 (by omega);have e5:(v==5)=true:=aK.2 g;have l:¬(v=4/\0<p.props.length+p.will.props.length):=λy=>by omega
   have j:Hid (kT v p=if v=4/\((p.client.size=0/\p.clean=false)\/(p.hasPass=true/\p.hasUser=false))then false
    else decide (0<=p.alive/\p.alive<65536/\0<=p.will.qos/\p.will.qos<=2)):=aa (by rw[i.o,r.o,Fl l,Fl K.o])
   have Y:=aa (LU (j.o.trans (Fl (λy=>by omega))));clear g l;rcases Y.o with ⟨q,c⟩ | ⟨q,m,c⟩ | ⟨q,m,O,c⟩ | ⟨q,m,O,c⟩
   ·have a:=aa c;have ak:p.alive<0:=by omega
    clear c q;go_wp2;go_ret;exact⟨by rw[a.o];rfl,f.o.kept⟩
   ·have a:=aa c;have u:¬p.alive<=65535:=by omega
    clear c m;go_wp2;go_ret;exact⟨by rw[a.o];rfl,f.o.kept⟩
   ·have a:=aa c;have u:p.alive<=65535:=by omega
    have am:p.will.qos<0:=by omega
    clear c m O;go_wp2;go_ret;exact⟨by rw[a.o];rfl,f.o.kept⟩
   ·have a:=aa c;have u:p.alive<=65535:=by omega
    clear c m;go_wp2;go_ret;exact⟨by rw[a.o];rfl,f.o.kept⟩
 rotate_left
 all_goals
  go_wp2_with fail;refine wp_region_quiet_below (by kernel_rfl) (by kernel_rfl) ?_
  repeat (go_big_quiet_step (first| with_reducible exact C _ _| with_reducible exact M _ _| with_reducible exact H _ _))
  refine kE ?_;intro _ B;obtain⟨⟨z,osq⟩,n⟩:=B;subst n;have f:=aa (s.o.below (o.o z osq));clear C M H G l0 o;generalize Sort.grow (redrawn _ z) osq=wq at*;go_wp2;go_ret;exact⟨by rw[a.o];rfl,f.o.kept⟩
end
section
theorem Ic(v:Int)(p:Pk)(h:Hs)(w:abP)(ip:PkIn w w.heap.size p h)(ok:PkOk p):
  abR 116 #[.int .i64 v,pkV p h] w (.int .i64 (eR v p)):=by
 have f:=aa ok;have t:=aa ((St.start w).push ip);have G:Hid (eR v p=if kT v p=false then 2
  else if YF p.client=false\/YF p.user=false then 6
  else if p.hasWill=true/\fp p.will.topic=false then 10
  else if 65535<p.will.payload.size\/65535<p.pass.size then 2
  else if(aM p.kind p.props).2≠0 then(aM p.kind p.props).2
  else(aM 16 p.will.props).2):=aa rfl
 have J:Hid (kT v p=(YG v&&(gm p.kind&&(decide (p=kS p)&&dU v p)))):=aa rfl;have s:=t.o.cell 0 rfl;have O:=t.o.ld 0 rfl;clear ip ok;go_enter func116,ntmps116;go_wp2_with fail;refine Yg (KH v p h _ (t.o.into 0 rfl) f.o) λR g=>?_;have D:=aa (t.o.below g);clear g s O
 have s:=D.o.cell 0 rfl;cases q:kT v p
 ·have d:Hid (eR v p=2):=aa (by rw[G.o,if_pos q]);clear q;go_wp2;go_ret;exact⟨by rw[d.o];rfl,D.o.kept⟩
 have H:Hid (GI v p.kind p.props=(aM p.kind p.props).2/\GI v 16 p.will.props=(aM 16 p.will.props).2):=aa (by
  have F:dU v p=true:=by
   have:=J.o.symm.trans q;simp only[eh]at this;exact this.2.2.2
  have Q:¬(v=4/\0<p.props.length+p.will.props.length):=λy=>by
   unfold dU at F;rw[if_pos y]at F;cases F
  exact⟨Ir (λy=>by omega),Ir (λy=>by omega)⟩)
 have l:Hid (eR v p=if YF p.client=false\/YF p.user=false then 6
  else if p.hasWill=true/\fp p.will.topic=false then 10
  else if 65535<p.will.payload.size\/65535<p.pass.size then 2
  else if(aM p.kind p.props).2≠0 then(aM p.kind p.props).2
  else(aM 16 p.will.props).2):=aa (by rw[G.o,Fl (by rw[q];decide)])
 clear q;go_wp2_with fail;refine(xj p.client _ (by have:=f.o.texts;omega)).mono ?_;rintro e S ⟨rfl,rfl⟩;have I:=D;cases o:YF p.client
 ·have d:Hid (eR v p=6):=aa (by rw[l.o,if_pos (.inl o)]);clear o;go_wp2;go_ret;exact⟨by rw[d.o];rfl,I.o.kept⟩
 go_wp2_with fail;refine(xj p.user _ (by have:=f.o.texts;omega)).mono ?_;rintro e T ⟨rfl,rfl⟩;have E:=I;cases x:YF p.user
 ·have d:Hid (eR v p=6):=aa (by rw[l.o,if_pos (.inr x)]);clear o x;go_wp2;go_ret;exact⟨by rw[d.o];rfl,E.o.kept⟩
 have m:Hid (eR v p=if p.hasWill=true/\fp p.will.topic=false then 10
  else if 65535<p.will.payload.size\/65535<p.pass.size then 2
  else if(aM p.kind p.props).2≠0 then(aM p.kind p.props).2
  else(aM 16 p.will.props).2):=aa (by rw[l.o,Fl (λy=>y.elim (λz=>by rw[o]at z;cases z) (λz=>by rw[x]at z;cases z))])
 clear o x;obtain⟨N,C⟩:∃b,p.hasWill=b:=⟨_,rfl⟩;cases N
 focus
  have j:Hid (eR v p=if 65535<p.will.payload.size\/65535<p.pass.size then 2
   else if(aM p.kind p.props).2≠0 then(aM p.kind p.props).2
   else(aM 16 p.will.props).2):=aa (by rw[m.o,Fl (λy=>by rw[C]at y;cases y.1)])
  have i:=E
 rotate_left
 focus
  go_wp2_with fail;refine(Hg p.will.topic _ (by have:=f.o.texts;omega)).mono ?_;rintro e U ⟨rfl,rfl⟩;have i:=E;cases u:fp p.will.topic
  ·have d:Hid (eR v p=10):=aa (by rw[m.o,if_pos ⟨C,u⟩]);clear u;go_wp2;go_ret;exact⟨by rw[d.o];rfl,i.o.kept⟩
  have j:Hid (eR v p=if 65535<p.will.payload.size\/65535<p.pass.size then 2
   else if(aM p.kind p.props).2≠0 then(aM p.kind p.props).2
   else(aM 16 p.will.props).2):=aa (by rw[m.o,Fl (λy=>by rw[u]at y;cases y.2)])
  clear u
 rotate_left
 all_goals
  by_cases r:65535<p.will.payload.size
  ·have L:(65535:Int)<(p.will.payload.size:Int):=by omega
   have d:Hid (eR v p=2):=aa (by rw[j.o,if_pos (.inl r)]);clear r;go_wp2;go_ret;exact⟨by rw[d.o];rfl,i.o.kept⟩
  have L:(p.will.payload.size:Int)<=65535:=by omega
  by_cases A:65535<p.pass.size
  ·have M:(65535:Int)<(p.pass.size:Int):=by omega
   have d:Hid (eR v p=2):=aa (by rw[j.o,if_pos (.inr A)]);clear r A;go_wp2;go_ret;exact⟨by rw[d.o];rfl,i.o.kept⟩
  have M:(p.pass.size:Int)<=65535:=by omega
  have B:Hid (eR v p=if(aM p.kind p.props).2≠0 then(aM p.kind p.props).2 else(aM 16 p.will.props).2):=aa (by rw[j.o,Fl (λy=>y.elim r A)]);clear r A;go_wp2_with fail;refine Yg (Gx v p.kind p.props _ rfl f.o.props h.props.a h.props.c _ (i.o.into 0 rfl).props f.o.len.2.2.2 (i.o.into 0 rfl).caps.2.2.2) λV g=>?_;rw[H.o.1];have n:=aa (i.o.below g);clear g s
  have s:=n.o.cell 0 rfl;by_cases k:(aM p.kind p.props).2=0;rotate_left
  ·have P:((aM p.kind p.props).2 !=0)=true:=aA.2 k;have d:Hid (eR v p=(aM p.kind p.props).2):=aa (by rw[B.o,if_pos k]);clear k;go_wp2;go_ret;exact⟨by rw[d.o];rfl,n.o.kept⟩
  rw[k];have d:Hid (eR v p=(aM 16 p.will.props).2):=aa (by rw[B.o,Fl (λy=>y k)]);clear k;go_wp2_with fail;refine Yg (Gx v 16 p.will.props _ rfl f.o.wp h.wp.a h.wp.c _ (n.o.into 0 rfl).wp f.o.len.1 (n.o.into 0 rfl).caps.1) λW g=>?_;rw[H.o.2];have K:=aa (n.o.below g);clear g s
  go_wp2;go_ret;exact⟨by rw[d.o];rfl,K.o.kept⟩
theorem ML(v k:Int)(l:List Pr):Hq v k l=tW v k l:=rfl
theorem Wv{x:abP}{g:Nat}(a b:UInt8)(hb:Bk x g 5 #[.int .u8 (a.toNat:Int),.int .u8 (b.toNat:Int)]):(convert 139 9 (.slice (some ⟨g,0,none⟩) 2 2)).run prog x= .ok (.string ⟨#[a,b]⟩) x:=
 ni 139 9 5 underlying139 underlying5 underlying9 2 (B:=x.heap.size) (l:=[a,b]) ⟨rfl,.inr ⟨g,0,rfl,hb.lt,λj u c=>by rw[bV,hb.cell,ay];exact c⟩⟩
theorem KJ(v:Int)(p:Pk)(h:Hs)(w:abP)(ip:PkIn w w.heap.size p h)(ok:PkOk p)(h2:p.kind=2):
  abR 129 #[.int .i64 v,pkV p h] w (.tuple #[.string (Fg v p).1,.int .i64 (Fg v p).2]):=by
 have q:=aa ok;have r:=aa ((St.start w).push ip);have C:Hid (Fg v p=if eR v p=0 then(vP v p,0)else(⟨#[]⟩,eR v p)):=aa rfl;have D:Hid (vP v p=qK [⟨#[if p.session=true then 1 else 0]⟩,⟨(Yk p.code.toNat 1).toArray⟩,tW v p.kind p.props]):=aa rfl;have N:=r.o.ld 0 rfl;have B:=aa h2;clear ip ok h2;go_enter func129,ntmps129;go_wp2_with fail;refine Yg (Ic v p h _ (r.o.into 0 rfl) q.o) λm l=>?_;have s:=aa (r.o.below l);clear l N
 by_cases j:eR v p=0;rotate_left
 ·have W:(eR v p !=0)=true:=aA.2 j;have o:Hid (Fg v p=(⟨#[]⟩,eR v p)):=aa (by rw[C.o,Fl j]);clear j;go_wp2;go_ret2;exact⟨by rw[o.o];rfl,s.o.kept⟩
 have o:Hid (Fg v p=(vP v p,0)):=aa (by rw[C.o,if_pos j]);have H:=Av j B.o;have n:=aa (Jr v p.kind p.props);obtain⟨b0,F,U⟩:∃b:UInt8,Hid ((⟨#[if p.session=true then 1 else 0]⟩:abO)=⟨#[b]⟩)/\IntKind.u8.wrap (pc p.session 1)=(b.toNat:Int):=by
  cases p.session
  ·exact⟨0,aa rfl,rfl⟩
  ·exact⟨1,aa rfl,rfl⟩
 obtain⟨b1,G,V⟩:∃b:UInt8,Hid (Yk p.code.toNat 1=[b])/\IntKind.u8.wrap p.code=(b.toNat:Int):=by
  refine⟨UInt8.ofNat p.code.toNat,aa (by simp[Yk]),?_⟩;rw[GM];simp[UInt8.toNat_ofNat'];omega
 rw[j];have t:=aa (fun(x:abP) M L=>G5 v p.kind p.props _ rfl q.o.props h.props.a h.props.c x M q.o.len.2.2.2 L);obtain⟨T,A⟩:∃T,tW v p.kind p.props=T:=⟨_,rfl⟩;rw[F.out,G.out,A]at D;have E:Hid (vP v p=⟨#[b0,b1]⟩++T):=aa (by
  rw[D.o];refine eX ?_;simp[qK,ls])
 simp only[ML]at t;rw[A]at t n;have S:¬(9223372036854775807<2+T.size):=by have:=n.o;omega
 have R:(⟨#[b0,b1]⟩:abO).size=2:=rfl;have J:=(s.o.cell 0 rfl 0).trans (cI _ _);rw[B.o]at J;clear j H A;go_wp2_with fail;clear J;go_cut [4,5] (λa b P=>a= .string (⟨#[b0,b1]⟩++T)/\b= .int .i64 0/\St w [(w.heap.size,p,h)] P)
 case first=>
  have i:Hid (∀x,abQ m x->St w [(w.heap.size,p,h)] x):=aa (λx d=>s.o.below d);have f:Hid (∀x,abQ m x->x.cell? ⟨w.heap.size,20,none⟩=some (.bool p.session)/\x.cell? ⟨w.heap.size,21,none⟩=some (.int .i64 p.code)/\x.cell? ⟨w.heap.size,0,none⟩=some (.int .i64 p.kind)/\x.cell? ⟨w.heap.size,24,none⟩=some (.slice h.props.a p.props.length h.props.c)):=aa (λx d=>⟨((i.o x d).cell 0 rfl 20).trans (YP _ _),((i.o x d).cell 0 rfl 21).trans (YB _ _),((i.o x d).cell 0 rfl 0).trans (cI _ _),((i.o x d).cell 0 rfl 24).trans (bR _ _)⟩);apply Wq
  ·kernel_rfl
  ·intro O
   repeat (apply Wk
           focus (refine Or.inl ⟨rfl,λx d=>?_⟩;have k:=f.o x d;go_simp;(try with_reducible rfl);done)
           try simp only[Act.put,af,am,ak])
   apply Wm (λx d _=>(MS p.session 1 x).mono λe y h=>⟨h.1,by rw[<-h.2];exact aq _ _⟩)
   ·rfl
   ·intro x d;have k:=f.o x d;go_simp
   repeat (apply Wk
           focus (refine Or.inl ⟨rfl,λx d=>?_⟩;have k:=f.o x d;go_simp;(try with_reducible rfl);done)
           try simp only[Act.put,af,am,ak])
   apply Wy (λu y=>∃g,u= .slice (some ⟨g,0,none⟩) 2 2/\Bk y g 5 #[.int .u8 (b0.toNat:Int),.int .u8 (b1.toNat:Int)]) (λu x y h l=>by obtain⟨g,z,h2⟩:=h;exact⟨g,z,Yh h2 l⟩)
   ·rfl
   ·intro x d _;refine⟨_,_,?_,⟨x.heap.size,rfl,Bk.fresh x _ _⟩,(aq x.heap.size x).alloc (ac _) (.cells #[.int .u8 (b0.toNat:Int),.int .u8 (b1.toNat:Int)] 5)⟩;go_simp
   apply WD (v:=.string ⟨#[b0,b1]⟩)
   ·rfl
   ·intro x d K;obtain⟨g,z,h2⟩:=(show ∃g,O 7= .slice (some ⟨g,0,none⟩) 2 2/\Bk x g 5 #[.int .u8 (b0.toNat:Int),.int .u8 (b1.toNat:Int)]from K 7 (by kernel_rfl));rw[z];have Q:=Wv b0 b1 h2;go_simp
   repeat (apply Wk
           focus (refine Or.inl ⟨rfl,λx d=>?_⟩;have k:=f.o x d;go_simp;(try with_reducible rfl);done)
           try simp only[Act.put,af,am,ak])
   apply Wm (λx d _=>t.o x ((i.o x d).into 0 rfl).props ((i.o x d).into 0 rfl).caps.2.2.2)
   ·rfl
   ·intro x d;have k:=f.o x d;go_simp
   repeat (apply Wk
           focus (refine Or.inl ⟨rfl,λx d=>?_⟩;have k:=f.o x d;go_simp;(try with_reducible rfl);done)
           try simp only[Act.put,af,am,ak])
   apply Wz;intro x d _;go_wp2;go_meet
   case rel=>exact⟨rfl,rfl,i.o x d⟩
  ·kernel_rfl
 obtain⟨rfl,rfl,I⟩:=hcut;go_wp2;go_ret2;refine⟨?_,I.kept⟩;rw[o.o,E.o];rfl
theorem LI(n:Int)(h:0<=n/\n<256):∃b:UInt8,Hid (Yk n.toNat 1=[b])/\IntKind.u8.wrap n=(b.toNat:Int):=by
 refine⟨UInt8.ofNat n.toNat,aa (by simp[Yk]),?_⟩;rw[GM];simp[UInt8.toNat_ofNat'];omega
theorem Jl(a b:abO):qK [a,b]=a++b:=by refine eX ?_;simp[qK,ls]
theorem Nt:qE ⟨#[77,81,84,84]⟩=i8:=by decide+kernel
theorem ZM(v:Int)(p:Pk)(h:Hs)(w:abP)(ip:PkIn w w.heap.size p h)(ok:PkOk p)(h2:p.kind≠2):
  abR 129 #[.int .i64 v,pkV p h] w (.tuple #[.string (if eR v p=0 then(EY v p,(0:Int))else(⟨#[]⟩,eR v p)).1,.int .i64 (if eR v p=0 then(EY v p,(0:Int))else(⟨#[]⟩,eR v p)).2]):=by
 have V:=aa ok;have S0:=aa ((St.start w).push ip);obtain⟨B,hB⟩:∃B,(if eR v p=0 then(EY v p,(0:Int))else(⟨#[]⟩,eR v p))=B:=⟨_,rfl⟩;rw[hB];have HE:=aa hB.symm;have l0:=S0.o.ld 0 rfl;have H2:=aa h2;clear ip ok h2 hB;go_enter func129,ntmps129;go_wp2_with fail;refine Yg (Ic v p h _ (S0.o.into 0 rfl) V.o) λw1 n=>?_;have S1:=aa (S0.o.below n);clear n l0
 by_cases D:eR v p=0;rotate_left
 ·have e0:(eR v p !=0)=true:=aA.2 D;have HX:Hid (B=(⟨#[]⟩,eR v p)):=aa (by rw[HE.o,Fl D]);clear D;go_wp2;go_ret2;exact⟨by rw[HX.o];rfl,S1.o.kept⟩
 have HX:Hid (B=(EY v p,0)):=aa (by rw[HE.o,if_pos D]);have HG:=aa (OO D H2.o);have N:=aa (mM D);rw[D];obtain⟨b0,a3,ba⟩:=LI v (by have:=HG.o.2.1;omega);obtain⟨Q,ab⟩:∃Q,flQ p=Q:=⟨_,rfl⟩;have aD:Hid (flN p=Q):=aa (by rw[<-ab];exact(if_pos HG.o.1).symm);have FF:Hid (∀x:abP,abR 201 #[pkV p h] x (.int .i64 Q)):=aa (λx=>by rw[<-ab];exact KE p h x);clear ab;obtain⟨b1,a4,bb⟩:=LI Q (by rw[<-aD.o];exact NA p);obtain⟨an,aF,bc⟩:∃m:Nat,Hid (p.alive.toNat=m)/\IntKind.u64.wrap p.alive=(m:Int):=⟨_,aa rfl,by rw[iZ];have:=HG.o.2.2;omega⟩;have aZ:Hid (an<65536):=aa (by have:=aF.out;have:=HG.o.2.2;omega);have A:=aa (Jr v p.kind p.props);have E:=aa (G9 p.client);have F:Hid (yK v p=qK [i8,⟨(Yk v.toNat 1).toArray⟩,⟨(Yk (flN p).toNat 1).toArray⟩,⟨(Yk p.alive.toNat 2).toArray⟩,tW v p.kind p.props,qE p.client]):=aa rfl;rw[aD.o,aF.out,a3.out,a4.out]at F;have TT:=aa (fun(x:abP) hr hc=>G5 v p.kind p.props _ rfl V.o.props h.props.a h.props.c x hr V.o.len.2.2.2 hc);simp only[ML]at TT;have N1:=aa (λx:abP=>He ⟨#[77,81,84,84]⟩ x (by decide));rw[Nt]at N1;have P3:=aa (λx:abP=>GV an 2 x (by have:=aZ.o;omega) (by omega) (by omega));have D4:=aa (λx:abP=>He p.client x (gL N.o.2.1.1));rw[show((2:Nat):Int)=2 from rfl]at P3;obtain⟨T,hT⟩:∃T,tW v p.kind p.props=T:=⟨_,rfl⟩;obtain⟨M,hM⟩:∃X,i8=X:=⟨_,rfl⟩;obtain⟨X3,L⟩:∃X:abO,(⟨(Yk an 2).toArray⟩:abO)=X:=⟨_,rfl⟩;obtain⟨D1,Z⟩:∃X:abO,qE p.client=X:=⟨_,rfl⟩;rw[hT,hM,L,Z]at F;rw[hT]at TT A;rw[hM]at N1;rw[L]at P3;rw[Z]at D4 E;have S:X3.size=2:=by rw[<-L,GW,fM]
 have aE:M.size=6:=by rw[<-hM];rfl
 have HL:=aa aE;have a1:=aa S
 have R:Hid (yK v p=M++⟨#[b0,b1]⟩++X3++T++D1):=aa (by
  rw[F.o];refine eX ?_;simp[qK,ls])
 have a2:Hid ((yK v p).size<=131140700):=aa (by
  rw[R.o];simp only[cK];have:=A.o;have:=E.o
  show M.size+2+X3.size+T.size+D1.size<=_;omega)
 have a6:(⟨#[b0,b1]⟩:abO).size=2:=rfl;have a7:¬(9223372036854775807<10+T.size):=by have:=A.o;omega
 have a8:¬(9223372036854775807<10+T.size+D1.size):=by have:=A.o;have:=E.o;omega
 have k0:=(S1.o.cell 0 rfl 0).trans (cI _ _);have e2:(p.kind==2)=false:=ar.2 H2.o;have t:Hid (p.user.size<=65535/\p.pass.size<=65535/\p.will.payload.size<=65535/\(p.hasWill=true->p.will.topic.size<=65535)):=aa ⟨gL N.o.2.1.2,N.o.2.2.2.1.2,N.o.2.2.2.1.1,λy=>gL (uV (N.o.2.2.1 y))⟩;clear D hT hM L Z N;go_wp2_with fail;clear k0;go_cut [7] (λa wx=>a= .string (M++⟨#[b0,b1]⟩++X3++T++D1)/\St w [(w.heap.size,p,h)] wx)
 case first=>
  have C:Hid (∀x,abQ w1 x->St w [(w.heap.size,p,h)] x):=aa (λx i=>S1.o.below i);have l:Hid (∀x,abQ w1 x->(kZ (.pointer (some ⟨w.heap.size,0,none⟩))).run prog x= .ok (pkV p h) x/\x.cell? ⟨w.heap.size,0,none⟩=some (.int .i64 p.kind)/\x.cell? ⟨w.heap.size,8,none⟩=some (.int .i64 p.alive)/\x.cell? ⟨w.heap.size,9,none⟩=some (.string p.client)/\x.cell? ⟨w.heap.size,24,none⟩=some (.slice h.props.a p.props.length h.props.c)):=aa (λx i=>⟨(C.o x i).ld 0 rfl,((C.o x i).cell 0 rfl 0).trans (cI _ _),((C.o x i).cell 0 rfl 8).trans (dp _ _),((C.o x i).cell 0 rfl 9).trans (dn _ _),((C.o x i).cell 0 rfl 24).trans (bR _ _)⟩);apply Wq
  ·kernel_rfl
  ·intro vs
   repeat (apply Wk
           focus (refine Or.inl ⟨rfl,λx i=>?_⟩;have r:=l.o x i;go_simp;(try with_reducible rfl);done)
           try simp only[Act.put,af,am,ak])
   apply Wm (λx i _=>N1.o x)
   ·rfl
   ·intro x i;have r:=l.o x i;go_simp
   repeat (apply Wk
           focus (refine Or.inl ⟨rfl,λx i=>?_⟩;have r:=l.o x i;go_simp;(try with_reducible rfl);done)
           try simp only[Act.put,af,am,ak])
   apply Wm (λx i _=>FF.o x)
   ·rfl
   ·intro x i;have r:=l.o x i;go_simp
   repeat (apply Wk
           focus (refine Or.inl ⟨rfl,λx i=>?_⟩;have r:=l.o x i;go_simp;(try with_reducible rfl);done)
           try simp only[Act.put,af,am,ak])
   apply Wy (λu y=>∃g,u= .slice (some ⟨g,0,none⟩) 2 2/\Bk y g 5 #[.int .u8 (b0.toNat:Int),.int .u8 (b1.toNat:Int)]) (λu x y h n=>by obtain⟨g,h1,h2⟩:=h;exact⟨g,h1,Yh h2 n⟩)
   ·rfl
   ·intro x i _;refine⟨_,_,?_,⟨x.heap.size,rfl,Bk.fresh x _ _⟩,(aq x.heap.size x).alloc (ac _) (.cells #[.int .u8 (b0.toNat:Int),.int .u8 (b1.toNat:Int)] 5)⟩;go_simp
   apply WD (v:=.string ⟨#[b0,b1]⟩)
   ·rfl
   ·intro x i hH;obtain⟨g,h1,h2⟩:=(show ∃g,vs 6= .slice (some ⟨g,0,none⟩) 2 2/\Bk x g 5 #[.int .u8 (b0.toNat:Int),.int .u8 (b1.toNat:Int)]from hH 6 (by kernel_rfl));rw[h1];have bv:=Wv b0 b1 h2;go_simp
   repeat (apply Wk
           focus (refine Or.inl ⟨rfl,λx i=>?_⟩;have r:=l.o x i;go_simp;(try with_reducible rfl);done)
           try simp only[Act.put,af,am,ak])
   apply Wm (λx i _=>P3.o x)
   ·rfl
   ·intro x i;have r:=l.o x i;go_simp
   repeat (apply Wk
           focus (refine Or.inl ⟨rfl,λx i=>?_⟩;have r:=l.o x i;go_simp;(try with_reducible rfl);done)
           try simp only[Act.put,af,am,ak])
   apply Wm (λx i _=>TT.o x ((C.o x i).into 0 rfl).props ((C.o x i).into 0 rfl).caps.2.2.2)
   ·rfl
   ·intro x i;have r:=l.o x i;go_simp
   repeat (apply Wk
           focus (refine Or.inl ⟨rfl,λx i=>?_⟩;have r:=l.o x i;go_simp;(try with_reducible rfl);done)
           try simp only[Act.put,af,am,ak])
   apply Wm (λx i _=>D4.o x)
   ·rfl
   ·intro x i;have r:=l.o x i;go_simp
   repeat (apply Wk
           focus (refine Or.inl ⟨rfl,λx i=>?_⟩;have r:=l.o x i;go_simp;(try with_reducible rfl);done)
           try simp only[Act.put,af,am,ak])
   apply Wz;intro x i _;go_wp2;go_meet
   case rel=>exact⟨rfl,C.o x i⟩
  ·kernel_rfl
 obtain⟨rfl,o⟩:=hcut;have j:=aa o;clear o FF TT N1 P3 D4 ba bb bc S aE a6 a7 a8 e2;rw[<-R.o];have q:Hid (yJ v p=if p.hasWill=true then qK [yK v p,tW v 16 p.will.props,qE p.will.topic,qE p.will.payload]else yK v p):=aa rfl;have z:Hid (yI v p=if p.hasUser=true then qK [yJ v p,qE p.user]else yJ v p):=aa rfl;have G:Hid (EY v p=if p.hasPass=true then qK [yI v p,qE p.pass]else yI v p):=aa rfl;have P:=aa (abY v p);obtain⟨U,I⟩:∃O,yK v p=O:=⟨_,rfl⟩;obtain⟨O2,J⟩:∃O,yJ v p=O:=⟨_,rfl⟩;obtain⟨O3,K⟩:∃O,yI v p=O:=⟨_,rfl⟩;rw[I,J,K]at P;rw[I,J]at q;rw[J,K]at z;rw[K]at G;rw[I];clear I J K F R A E HL a1 a2;have aH:=(j.o.cell 0 rfl 14).trans (YM _ _);obtain⟨wb,aG⟩:∃b,p.hasWill=b:=⟨_,rfl⟩;rw[aG]at aH q t;clear aG
 go_upto_if 59 with fail
 clear aH;go_cut [7] (λa wx=>a= .string O2/\St w [(w.heap.size,p,h)] wx)
 case first=>
  cases wb
  ·go_wp2;go_meet
   case rel=>exact⟨by rw[q.o];rfl,j.o⟩
  ·rw[if_pos rfl]at q;have H:Hid ((tW v 16 p.will.props).size<=131075004/\(qE p.will.topic).size<=65537/\(qE p.will.payload).size<=65537):=aa ⟨Jr _ _ _,G9 _,G9 _⟩;have q0:∀(d:Nat) (os:Array Obj),Calls prog 200 #[.int .i64 v,.int .i64 16,.slice h.wp.a p.will.props.length h.wp.c] (Sort.grow (redrawn wc d) os) λe bg=>e= .returned (.string (tW v 16 p.will.props))/\∃p:Regrown,bg=Sort.grow (redrawn wc p.d) p.os:=jw (λx i=>G5 v 16 p.will.props _ rfl V.o.wp h.wp.a h.wp.c x ((j.o.below i).into 0 rfl).wp V.o.len.1 ((j.o.below i).into 0 rfl).caps.1);have q1:=jw (W:=wc) (λx i=>He p.will.topic x (t.o.2.2.2 rfl));have q2:=jw (W:=wc) (λx i=>He p.will.payload x t.o.2.2.1);obtain⟨Y,ag⟩:∃X,tW v 16 p.will.props=X:=⟨_,rfl⟩;obtain⟨WA,ad⟩:∃X,qE p.will.topic=X:=⟨_,rfl⟩;obtain⟨WB,ae⟩:∃X,qE p.will.payload=X:=⟨_,rfl⟩;rw[ag,ad,ae]at q H;rw[ag]at q0;rw[ad]at q1;rw[ae]at q2;have bf:=cell_regrown (show wc.cell? ⟨w.heap.size,19,none⟩=some (.slice h.wp.a p.will.props.length h.wp.c)from(j.o.cell 0 rfl 19).trans (YL _ _));have bd:=cell_regrown (show wc.cell? ⟨w.heap.size,15,none⟩=some (.string p.will.topic)from(j.o.cell 0 rfl 15).trans (cz _ _));have be:=cell_regrown (show wc.cell? ⟨w.heap.size,16,none⟩=some (.string p.will.payload)from(j.o.cell 0 rfl 16).trans (cy _ _));have z1:¬(9223372036854775807<U.size+Y.size):=by have:=P.o;have:=H.o;omega
   have z2:¬(9223372036854775807<U.size+Y.size+WA.size):=by have:=P.o;have:=H.o;omega
   have z3:¬(9223372036854775807<U.size+Y.size+WA.size+WB.size):=by have:=P.o;have:=H.o;omega
   have aC:Hid (∀d os,abQ wc (Sort.grow (redrawn wc d) os)):=aa (λd os=>below_regrown wc d os);clear ag ad ae;go_wp2_with fail;refine wp_region_quiet_below (by kernel_rfl) (by kernel_rfl) ?_
   repeat (go_big_quiet_step (first| with_reducible exact q0 _ _| with_reducible exact q1 _ _| with_reducible exact q2 _ _))
   refine kE ?_;intro _ a9;obtain⟨⟨dq,osq⟩,aT⟩:=a9;subst aT;have S8:=aa (j.o.below (aC.o dq osq));clear q0 q1 q2 bf bd be aC z1 z2 z3;have a5:=aa (show qK [U,Y,WA,WB]=U++Y++WA++WB by refine eX ?_;simp[qK,ls]);go_wp2;go_meet
   case rel=>exact⟨by rw[q.o,<-a5.out],S8.o⟩
 obtain⟨rfl,o⟩:=hcut;clear j q;have j:=aa o;clear o;have k:=(j.o.cell 0 rfl 10).trans (bW _ _);obtain⟨b,n⟩:∃b,p.hasUser=b:=⟨_,rfl⟩;rw[n]at k z;clear n
 go_upto_if 78 with fail
 clear k;go_cut [7] (λa wx=>a= .string O3/\St w [(w.heap.size,p,h)] wx)
 case first=>
  cases b
  ·go_wp2;go_meet
   case rel=>exact⟨by rw[z.o];rfl,j.o⟩
  ·have f:=(j.o.cell 0 rfl 11).trans (co _ _);go_wp2_with fail;refine Yg (He p.user _ t.o.1) λy n=>?_;have SY:=aa (j.o.below n);clear n f
   have s:¬(9223372036854775807<O2.size+(qE p.user).size):=by have:=P.o;have:=G9 p.user;omega
   have c:=aa (Jl O2 (qE p.user));generalize qE p.user=X at*;go_wp2;go_meet
   case rel=>exact⟨by rw[z.o,<-c.out];rfl,SY.o⟩
 obtain⟨rfl,o⟩:=hcut;clear j z;have j:=aa o;clear o;have k:=(j.o.cell 0 rfl 12).trans (YK _ _);obtain⟨b,n⟩:∃b,p.hasPass=b:=⟨_,rfl⟩;rw[n]at k G;clear n;cases b
 ·go_wp2;go_ret2;exact⟨by rw[HX.o,G.o];rfl,j.o.kept⟩
 ·have f:=(j.o.cell 0 rfl 13).trans (bZ _ _);go_wp2_with fail;refine Yg (He p.pass _ t.o.2.1) λy n=>?_;have SY:=aa (j.o.below n);clear n k f
  have s:¬(9223372036854775807<O3.size+(qE p.pass).size):=by have:=P.o;have:=G9 p.pass;omega
  have c:=aa (Jl O3 (qE p.pass));generalize qE p.pass=X at*;go_wp2;go_ret2;exact⟨by rw[HX.o,G.o,<-c.out];rfl,SY.o.kept⟩
theorem Ls(v:Int)(p:Pk)(h:Hs)(w:abP)(ip:PkIn w w.heap.size p h)(ok:PkOk p):
  abR 129 #[.int .i64 v,pkV p h] w (.tuple #[.string (Dm v p).1,.int .i64 (Dm v p).2]):=by
 by_cases a:p.kind=2
 ·have b:Dm v p=Fg v p:=if_pos a;rw[b];exact KJ v p h w ip ok a
 ·have b:Dm v p=if eR v p=0 then(EY v p,0)else(⟨#[]⟩,eR v p):=Fl a;rw[b];exact ZM v p h w ip ok a
end
