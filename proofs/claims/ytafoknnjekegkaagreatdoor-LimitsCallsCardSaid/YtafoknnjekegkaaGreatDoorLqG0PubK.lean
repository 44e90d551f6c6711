/- Parts: PubK, MCnt, MCnp. -/
import Derived.Test.YtafoknnjekegkaaGreatDoorLqG0MPubB
import Derived.Shelf.Strings.OnBuilder
set_option maxRecDepth 10000
set_option maxHeartbeats 8000000
namespace Go.Proofs.YtafoknnjekegkaaGreatDoor
open Go.RowKit Go.Proofs.Tryz
section
theorem D9{v f:Int}{s:abO}(hs:s.size<=140737488351232):PkOk (km v f s).1:=by
 have j:PkOk pk0:=iw (k:=0) (i:=0) (c:=0) (l:=[]) (by simp) (by simp);have g:∀a b,(s.extract a b).size<=140737488351232:=λa b=>by rw[aj];omega
 have m:(ab0 s).1.size<=140737488351232:=by
  have z:(⟨#[]⟩:abO).size<=140737488351232:=by decide
  unfold ab0 dJ;split
  ·exact z
  ·split
   ·exact z
   ·split
    ·exact z
    ·exact g _ _
 have e:PkOk (gI v f s):=by
  unfold gI;refine⟨?_,?_,?_,?_,?_⟩
  ·intro q d;cases d
  ·show ∀q∈(fG v f s).1,qc q;unfold fG;split
   ·exact iT (g _ _)
   ·intro q d;cases d
  ·intro q d;cases d
  ·exact⟨m,g _ _,ag _,ag _,ag _,ag _,ag _⟩
  ·refine⟨ag _,ag _,ag _,?_⟩;show(fG v f s).1.length<=_;unfold fG;split
   ·by_cases h:(aZ 3 (s.extract (iu f s) s.size)).2.2=0
    ·have:=kj h;omega
    ·rw[fZ h];exact ag _
   ·exact ag _
 unfold km
 repeat' split
 all_goals first| exact j| exact e
abbrev NB(g0 g1:Nat)(p:Pk)(h k:Hs)(Y:abO)(W x:abP):Prop:=(kZ (.pointer (some ⟨g0,0,none⟩))).run prog x= .ok (pkV p h) x/\(kZ (.pointer (some ⟨g1,0,none⟩))).run prog x= .ok (pkV p k) x/\x.cell? ⟨g0,6,none⟩=some (.string Y)/\abQ W x
section
variable {w W x y:abP} {g0 g1:Nat} {p:Pk} {h k:Hs} {Y:abO}
end
attribute [local go_sem ↓high] bu sD sE
attribute [local go_sem ↓] wh
attribute [local go_sem] Cv mX uw pU sR yi sQ yh sP yg pC uI pB uH pA uG py uF pu uE pm uy pj ux sY pX sX pW
def gm(k:Int):Bool:=decide (k=1\/k=2)
theorem np(v:Int)(w:abP):abT 146 #[.int .i64 v] w (.bool (YG v)):=by
 go_enter func146,ntmps146;go_wp2
 all_goals
  go_ret;refine⟨eT ?_,rfl⟩;unfold YG;by_cases a:v=4<;>by_cases b:v=5<;>simp_all
theorem oU(k:Int)(w:abP):abT 147 #[.int .i64 k] w (.bool (gm k)):=by
 go_enter func147,ntmps147;go_wp2
 all_goals
  go_ret;refine⟨eT ?_,rfl⟩;unfold gm;by_cases a:k=1<;>by_cases b:k=2<;>simp_all
def kS(p:Pk):Pk:=
 if p.kind=2 then {pk0 with kind:=p.kind,props:=p.props,session:=p.session,code:=p.code}
 else {pk0 with kind:=p.kind,props:=p.props,clean:=p.clean,alive:=p.alive,client:=p.client,hasWill:=p.hasWill,will:=(if p.hasWill=true then p.will else wl0),hasUser:=p.hasUser,user:=(if p.hasUser=true then p.user else⟨#[]⟩),hasPass:=p.hasPass,pass:=(if p.hasPass=true then p.pass else⟨#[]⟩)}
def qJ(p:Pk)(h:Hs):Hs:={hs0 with props:=h.props,wp:=(if p.kind≠2/\p.hasWill=true then h.wp else hd0)}
theorem qI{p:Pk}(h:p.kind=2):kS p= {pk0 with kind:=p.kind,props:=p.props,session:=p.session,code:=p.code}:=by unfold kS;rw[if_pos h]
theorem vJ{p:Pk}(h:p.kind≠2){a b c:Bool}(ha:p.hasWill=a)(hb:p.hasUser=b)(hc:p.hasPass=c):kS p= {pk0 with kind:=p.kind,props:=p.props,clean:=p.clean,alive:=p.alive,client:=p.client,hasWill:=a,will:=(if a=true then p.will else wl0),hasUser:=b,user:=(if b=true then p.user else⟨#[]⟩),hasPass:=c,pass:=(if c=true then p.pass else⟨#[]⟩)}:=by unfold kS;rw[Fl h,ha,hb,hc]
theorem Dl{p:Pk}(x:gz p):gz (kS p):=by
 unfold kS;split
 ·exact⟨ag _,ag _,ag _,x.2.2.2⟩
 ·refine⟨?_,ag _,ag _,x.2.2.2⟩;show(if p.hasWill=true then p.will else wl0).props.length<=_;split
  ·exact x.1
  ·exact ag _
theorem E6{w:abP}{B:Nat}{p:Pk}{h:Hs}(x:PkIn w B p h):PkIn w B (kS p) (qJ p h):=by
 by_cases b:p.kind=2
 ·have a:qJ p h= {hs0 with props:=h.props}:=by unfold qJ;rw[Fl (λy=>y.1 b)];rfl
  rw[qI b,a];exact⟨Rd.nil _ _ _ _,Rd.nil _ _ _ _,Rd.nil _ _ _ _,x.props,ag _,ag _,ag _,x.caps.2.2.2⟩
 ·rw[vJ b rfl rfl rfl];cases c:p.hasWill
  ·have a:qJ p h= {hs0 with props:=h.props}:=by unfold qJ;rw[Fl (λy=>by rw[c]at y;cases y.2)];rfl
   rw[a];exact⟨Rd.nil _ _ _ _,Rd.nil _ _ _ _,Rd.nil _ _ _ _,x.props,ag _,ag _,ag _,x.caps.2.2.2⟩
  ·have a:qJ p h= {hs0 with props:=h.props,wp:=h.wp}:=by unfold qJ;rw[if_pos ⟨b,c⟩]
   rw[a];exact⟨x.wp,Rd.nil _ _ _ _,Rd.nil _ _ _ _,x.props,x.caps.1,ag _,ag _,x.caps.2.2.2⟩
theorem zm(k:Int)(l:List Pr)(A:Option Addr)(n:Nat)(w:abP):(qP #[(0,.int .i64 k),(20,.slice A l.length n)]).run prog w= .ok (pkV {pk0 with kind:=k,props:=l} {hs0 with props:=⟨A,n⟩}) w:=by kernel_rfl
theorem ug(p:Pk)(h:Hs)(Q:Pk)(H:Hs)(x:abP)(hq:kS p=Q)(hh:qJ p h=H)(hi:PkIn x x.heap.size p h)(hn:gz p):
  abR 218 #[pkV p h,pkV Q H] x (.bool (decide (p=kS p))):=by
 subst hq hh;exact jE p (kS p) h (qJ p h) x hi (E6 hi) hn (Dl hn)
theorem AB(p:Pk)(h:Hs)(w:abP)(ip:PkIn w w.heap.size p h)(ok:PkOk p):
  abR 206 #[pkV p h] w (.bool (decide (p=kS p))):=by
 have r:=aa ok;have u:=aa ip;obtain⟨W,i,G⟩:=mF w p {pk0 with kind:=p.kind,props:=p.props} h {hs0 with props:=⟨h.props.a,h.props.c⟩};have f:=aa i;have s:=i.lt;have I:=λd=>(i.bk_pw d).cell;have H:=(Bk.fresh w PkT (pkC p h)).cell;have D:∀d,(kZ (.pointer (some ⟨w.heap.size,0,none⟩))).run prog (pw W (w.heap.size+1) d).drew= .ok (pkV p h) (pw W (w.heap.size+1) d).drew:=λd=>cf ((i.bk_pw d).drewN 1);have E:∀q k,(kZ (.pointer (some ⟨w.heap.size+1,0,none⟩))).run prog (pw W (w.heap.size+1) (pkC q k)).drew= .ok (pkV q k) (pw W (w.heap.size+1) (pkC q k)).drew:=λq k=>cf ((uJ W (w.heap.size+1) (pkC q k) s).drewN 1);have F:∀d,(Ev (.pointer (some ⟨w.heap.size,15,none⟩))).run prog (pw W (w.heap.size+1) d).drew= .ok (wlV p.will h.wp) (pw W (w.heap.size+1) d).drew:=λd=>Gj ((i.bk_pw d).drewN 1);have C:=zm p.kind p.props h.props.a h.props.c;have m:Hid (∀x,abQ w x->PkIn x x.heap.size p h):=aa λx t=>(u.o.below t).wider t.size;clear ip ok i;go_enter func206,ntmps206;by_cases g:p.kind=2
 ·have v:(p.kind==2)=true:=aK.2 g;have j:=aa g;clear g;go_wp2_with fail;go_region;go_wp2_with fail;refine Yg (ug p h _ _ _ ((qI j.o).trans rfl) (by unfold qJ;rw[Fl (λy=>y.1 j.o)];rfl) (m.o _ ((f.o.kept _).drew)) r.o.len) λB l=>?_;have o:=aa (((f.o.kept _).drew).trans (l.mono ((f.o.kept _).drew).size));clear l
  go_wp2;go_ret;exact⟨rfl,o.o⟩
 ·have v:(p.kind==2)=false:=ar.2 g;have j:=aa g;clear g;go_wp2_with fail;go_region;cases z:p.hasWill<;>cases l:p.hasUser<;>cases A:p.hasPass
  all_goals
   have b:=aa (And.intro z (And.intro l A));go_wp2_with fail;refine(ug p h _ _ _ ((vJ j.o b.o.1 b.o.2.1 b.o.2.2).trans rfl)
    (by unfold qJ;first| (rw[Fl (λy=>by have:=b.o.1;rw[y.2]at this;cases this)];rfl) | (rw[if_pos ⟨j.o,b.o.1⟩])) (m.o _ ((f.o.kept _).drew)) r.o.len).mono ?_
   rintro e B ⟨rfl,n⟩;have o:=aa (((f.o.kept _).drew).trans (n.mono ((f.o.kept _).drew).size));clear n
   go_wp2;go_ret;exact⟨rfl,o.o⟩
end
section
def i9(v:Int)(p:Pk):Bool:=if v=4 then ww p.code else may p.kind p.code
def dU(v:Int)(p:Pk):Bool:=
 if v=4/\0<p.props.length+p.will.props.length then false
 else if p.kind=2 then i9 v p&&(decide (p.code=0) || !p.session)
 else if v=4/\((p.client.size=0/\p.clean=false)\/(p.hasPass=true/\p.hasUser=false))then false
 else decide (0<=p.alive/\p.alive<65536/\0<=p.will.qos/\p.will.qos<=2)
theorem xx(v:Int)(p:Pk)(h:Hs)(w:abP)(ip:PkIn w w.heap.size p h)(ok:PkOk p):
  abR 207 #[.int .i64 v,pkV p h] w (.bool (dU v p)):=by
 have Y:=aa ok;have l:=aa ((St.start w).push ip);have J:Hid (dU v p=if v=4/\0<p.props.length+p.will.props.length then false
  else if p.kind=2 then i9 v p&&(decide (p.code=0) || !p.session)
  else if v=4/\((p.client.size=0/\p.clean=false)\/(p.hasPass=true/\p.hasUser=false))then false
  else decide (0<=p.alive/\p.alive<65536/\0<=p.will.qos/\p.will.qos<=2)):=aa rfl
 have S:=l.o.cell 0 rfl;have T:IntKind.i64.wrap ((p.props.length:Int)+(p.will.props.length:Int))=(p.props.length:Int)+(p.will.props.length:Int):=by
  rw[aQ];have:=ok.lens;omega
 have j:=kR p.client;clear ip ok;go_enter func207,ntmps207;by_cases u:v=4/\0<p.props.length+p.will.props.length
 ·have a:Hid (dU v p=false):=aa (by rw[J.o,if_pos u]);have Z:(v==4)=true:=aK.2 u.1;have O:(0:Int)<(p.props.length:Int)+(p.will.props.length:Int):=by omega
  clear u;go_wp2;go_ret;exact⟨by rw[a.o];rfl,l.o.kept⟩
 have D:Hid (dU v p=if p.kind=2 then i9 v p&&(decide (p.code=0) || !p.session)
  else if v=4/\((p.client.size=0/\p.clean=false)\/(p.hasPass=true/\p.hasUser=false))then false
  else decide (0<=p.alive/\p.alive<65536/\0<=p.will.qos/\p.will.qos<=2)):=aa (by rw[J.o,Fl u])
 obtain⟨C,F⟩:∃b:Bool,(v==4)=b:=⟨_,rfl⟩;have s:C=true->(p.props.length:Int)+(p.will.props.length:Int)<=0:=λr=>by
  have:v=4:=aK.1 (F.trans r);have:=λz=>u ⟨this,z⟩;omega
 have K:(v=4)↔C=true:=by rw[<-F];exact aK.symm
 have o:=aa K;clear u K;by_cases x:p.kind=2
 focus
  have H:(p.kind==2)=true:=aK.2 x;have g:Hid (dU v p=(i9 v p&&(decide (p.code=0) || !p.session))):=aa (by rw[D.o,if_pos x]);clear x;cases C
  focus
   have t:Hid (i9 v p=may p.kind p.code):=aa (by unfold i9;rw[Fl (λy=>by have:=o.o.1 y;cases this)]);clear s;go_wp2_with fail;refine Yg (m7 p.kind p.code _) λV r=>?_;have q:=aa (l.o.below r);clear r S
   have U:=q.o.cell 0 rfl;cases m:may p.kind p.code
   ·have a:Hid (dU v p=false):=aa (by rw[g.o,t.o,m];rfl);clear m;go_wp2;go_ret;exact⟨by rw[a.o];rfl,q.o.kept⟩
   rotate_left
  rotate_left
  focus
   have t:Hid (i9 v p=ww p.code):=aa (by unfold i9;rw[if_pos (o.o.2 rfl)]);have O:=s rfl;clear s;go_wp2_with fail;refine Yg (m7 p.kind p.code _) λV r=>?_;have q:=aa (l.o.below r);clear r S
   have U:=q.o.cell 0 rfl;go_wp2_with fail;refine(wv p.code _).mono ?_;rintro e w2 ⟨rfl,rfl⟩;cases m:ww p.code
   ·have a:Hid (dU v p=false):=aa (by rw[g.o,t.o,m];rfl);clear m;go_wp2;go_ret;exact⟨by rw[a.o];rfl,q.o.kept⟩
   rotate_left
  rotate_left
 rotate_left 2
 ·have H:(p.kind==2)=false:=ar.2 x;have g:Hid (dU v p=if v=4/\((p.client.size=0/\p.clean=false)\/(p.hasPass=true/\p.hasUser=false))then false
   else decide (0<=p.alive/\p.alive<65536/\0<=p.will.qos/\p.will.qos<=2)):=aa (by rw[D.o,Fl x])
  clear x;have E:∀(Q:dU v p=decide (0<=p.alive/\p.alive<65536/\0<=p.will.qos/\p.will.qos<=2)),
   (¬0<=p.alive/\dU v p=false)\/(0<=p.alive/\¬p.alive<65536/\dU v p=false)\/(0<=p.alive/\p.alive<65536/\¬0<=p.will.qos/\dU v p=false)\/(0<=p.alive/\p.alive<65536/\0<=p.will.qos/\dU v p=decide (p.will.qos<=2)):=λQ=>by
   rw[Q];by_cases f:0<=p.alive
   ·by_cases i:p.alive<65536
    ·by_cases k:0<=p.will.qos
     ·exact .inr (.inr (.inr ⟨f,i,k,qf.2 ⟨λy=>y.2.2.2,λy=>⟨f,i,k,y⟩⟩⟩))
     ·exact .inr (.inr (.inl ⟨f,i,k,ah (λy=>k y.2.2.1)⟩))
    ·exact .inr (.inl ⟨f,i,ah (λy=>i y.2.1)⟩)
   ·exact .inl ⟨f,ah (λy=>f y.1)⟩
  have B:=aa E;clear E;cases C
  focus
   have G:=aa (B.o (by rw[g.o,Fl (λy=>by have:=o.o.1 y.1;cases this)]));clear s;rcases G.o with ⟨f,c⟩ | ⟨f,i,c⟩ | ⟨f,i,k,c⟩ | ⟨f,i,k,c⟩
   focus
    have a:=aa c;have L:p.alive<0:=by omega
    clear c f
   rotate_left
   focus
    have a:=aa c;have M:65536<=p.alive:=by omega
    clear c i
   rotate_left
   focus
    have a:=aa c;have N:p.will.qos<0:=by omega
    clear c k
   rotate_left
   focus
    have a:=aa c;clear c
   rotate_left
  rotate_left 4
  focus
   have O:=s rfl;clear s;by_cases d:p.client.size=0/\p.clean=false
   focus
    have a:Hid (dU v p=false):=aa (by rw[g.o,if_pos ⟨o.o.2 rfl,.inl d⟩]);rw[au d.1]at j;have I:=d.2;clear d
   rotate_left
   focus
    by_cases A:p.hasPass=true/\p.hasUser=false
    focus
     have a:Hid (dU v p=false):=aa (by rw[g.o,if_pos ⟨o.o.2 rfl,.inr A⟩]);obtain⟨q1,q2⟩:=A;by_cases n:p.client.size=0
     focus
      rw[au n]at j;have I:p.clean=true:=by
       cases e:p.clean
       ·exact absurd ⟨n,e⟩ d
       ·rfl
      clear d n
     rotate_left
     focus
      rw[ah n]at j;clear d n
     rotate_left
    rotate_left 2
    ·have G:=aa (B.o (by rw[g.o,Fl (λy=>y.2.elim d A)]));have t:=aa (And.intro d A);have P:(p.client.toList.isEmpty=false)\/(p.client.toList.isEmpty=true/\p.clean=true):=by
      by_cases n:p.client.size=0
      ·rw[au n]at j;refine .inr ⟨j,?_⟩;cases e:p.clean
       ·exact absurd ⟨n,e⟩ d
       ·rfl
      ·rw[ah n]at j;exact .inl j
     have R:p.hasPass=false\/(p.hasPass=true/\p.hasUser=true):=by
      cases e:p.hasPass
      ·exact .inl rfl
      ·refine .inr ⟨rfl,?_⟩;cases H:p.hasUser
       ·exact absurd ⟨e,H⟩ A
       ·rfl
     clear d A j;rcases P with X| ⟨X,z2⟩<;>rcases R with W| ⟨W,y2⟩
     all_goals
      rcases G.o with ⟨f,c⟩ | ⟨f,i,c⟩ | ⟨f,i,k,c⟩ | ⟨f,i,k,c⟩
      ·have a:=aa c;have L:p.alive<0:=by omega
       clear c f;go_wp2;go_ret;exact⟨by rw[a.o];rfl,l.o.kept⟩
      ·have a:=aa c;have M:65536<=p.alive:=by omega
       clear c i;go_wp2;go_ret;exact⟨by rw[a.o];rfl,l.o.kept⟩
      ·have a:=aa c;have N:p.will.qos<0:=by omega
       clear c k;go_wp2;go_ret;exact⟨by rw[a.o];rfl,l.o.kept⟩
      ·have a:=aa c;clear c;go_wp2;go_ret;exact⟨by rw[a.o];rfl,l.o.kept⟩
   rotate_left 2
  rotate_left 3
  all_goals
   go_wp2;go_ret;exact⟨by rw[a.o];rfl,l.o.kept⟩
 all_goals
  by_cases d:p.code=0
  ·have I:(p.code==0)=true:=aK.2 d;have a:Hid (dU v p=true):=aa (by rw[g.o,t.o,m,au d];rfl);clear m d;go_wp2;go_ret;exact⟨by rw[a.o];rfl,q.o.kept⟩
  ·have I:(p.code==0)=false:=ar.2 d;have a:Hid (dU v p= !p.session):=aa (by rw[g.o,t.o,m,ah d];rfl);clear m d;go_wp2;go_ret;exact⟨by rw[a.o];rfl,q.o.kept⟩
def kT(v:Int)(p:Pk):Bool:=YG v&&(gm p.kind&&(decide (p=kS p)&&dU v p))
def eR(v:Int)(p:Pk):Int:=
 if kT v p=false then 2
 else if YF p.client=false\/YF p.user=false then 6
 else if p.hasWill=true/\fp p.will.topic=false then 10
 else if 65535<p.will.payload.size\/65535<p.pass.size then 2
 else if(aM p.kind p.props).2≠0 then(aM p.kind p.props).2
 else(aM 16 p.will.props).2
theorem Zh(v:Int)(p:Pk)(h:Hs)(w:abP)(ip:PkIn w w.heap.size p h)(ok:PkOk p):
  abR 141 #[.int .i64 v,pkV p h] w (.int .i64 (eR v p)):=by
 have i:=aa ok;have m:=aa ((St.start w).push ip);have q:Hid (eR v p=if kT v p=false then 2
  else if YF p.client=false\/YF p.user=false then 6
  else if p.hasWill=true/\fp p.will.topic=false then 10
  else if 65535<p.will.payload.size\/65535<p.pass.size then 2
  else if(aM p.kind p.props).2≠0 then(aM p.kind p.props).2
  else(aM 16 p.will.props).2):=aa rfl
 have O:Hid (kT v p=(YG v&&(gm p.kind&&(decide (p=kS p)&&dU v p)))):=aa rfl;have g:=m.o.cell 0 rfl;have N:=m.o.ld 0 rfl;clear ip ok;go_enter func141,ntmps141;go_wp2_with fail;refine(np v _).mono ?_;rintro e P ⟨rfl,rfl⟩;cases j:YG v
 ·have d:Hid (eR v p=2):=aa (by rw[q.o,if_pos (by rw[O.o,j];rfl)]);clear j;go_wp2;go_ret;exact⟨by rw[d.o];rfl,m.o.kept⟩
 have G:Hid (kT v p=(gm p.kind&&(decide (p=kS p)&&dU v p))):=aa (by rw[O.o,j,aL]);clear j;go_wp2_with fail;refine(oU p.kind _).mono ?_;rintro e P ⟨rfl,rfl⟩;cases j:gm p.kind
 ·have d:Hid (eR v p=2):=aa (by rw[q.o,if_pos (by rw[G.o,j];rfl)]);clear j;go_wp2;go_ret;exact⟨by rw[d.o];rfl,m.o.kept⟩
 have H:Hid (kT v p=(decide (p=kS p)&&dU v p)):=aa (by rw[G.o,j,aL]);clear j;go_wp2_with fail;refine Yg (AB p h _ (m.o.into 0 rfl) i.o) λP f=>?_;have t:=aa (m.o.below f);clear f g N
 have g:=t.o.cell 0 rfl;have N:=t.o.ld 0 rfl;by_cases o:p=kS p;rotate_left
 ·rw[ah o];have d:Hid (eR v p=2):=aa (by rw[q.o,if_pos (by rw[H.o,ah o];rfl)]);clear o;go_wp2;go_ret;exact⟨by rw[d.o];rfl,t.o.kept⟩
 rw[au o];have I:Hid (kT v p=dU v p):=aa (by rw[H.o,au o,aL]);clear o;go_wp2_with fail;refine Yg (xx v p h _ (t.o.into 0 rfl) i.o) λV f=>?_;have L:=aa (t.o.below f);clear f g N
 have g:=L.o.cell 0 rfl;cases D:dU v p
 ·have d:Hid (eR v p=2):=aa (by rw[q.o,if_pos (by rw[I.o,D])]);clear D;go_wp2;go_ret;exact⟨by rw[d.o];rfl,L.o.kept⟩
 have r:Hid (eR v p=if YF p.client=false\/YF p.user=false then 6
  else if p.hasWill=true/\fp p.will.topic=false then 10
  else if 65535<p.will.payload.size\/65535<p.pass.size then 2
  else if(aM p.kind p.props).2≠0 then(aM p.kind p.props).2
  else(aM 16 p.will.props).2):=aa (by rw[q.o,Fl (by rw[I.o,D];decide)])
 clear D;go_wp2_with fail;refine Yg (fk p.client _ (by have:=i.o.texts;omega)) λW f=>?_;have M:=aa (L.o.below f);clear f g
 have g:=M.o.cell 0 rfl;cases u:YF p.client
 ·have d:Hid (eR v p=6):=aa (by rw[r.o,if_pos (.inl u)]);clear u;go_wp2;go_ret;exact⟨by rw[d.o];rfl,M.o.kept⟩
 go_wp2_with fail;refine Yg (fk p.user _ (by have:=i.o.texts;omega)) λX f=>?_;have A:=aa (M.o.below f);clear f g
 have g:=A.o.cell 0 rfl;cases E:YF p.user
 ·have d:Hid (eR v p=6):=aa (by rw[r.o,if_pos (.inr E)]);clear u E;go_wp2;go_ret;exact⟨by rw[d.o];rfl,A.o.kept⟩
 have s:Hid (eR v p=if p.hasWill=true/\fp p.will.topic=false then 10
  else if 65535<p.will.payload.size\/65535<p.pass.size then 2
  else if(aM p.kind p.props).2≠0 then(aM p.kind p.props).2
  else(aM 16 p.will.props).2):=aa (by rw[r.o,Fl (λy=>y.elim (λz=>by rw[u]at z;cases z) (λz=>by rw[E]at z;cases z))])
 clear u E;obtain⟨T,K⟩:∃b,p.hasWill=b:=⟨_,rfl⟩;cases T
 focus
  have l:Hid (eR v p=if 65535<p.will.payload.size\/65535<p.pass.size then 2
   else if(aM p.kind p.props).2≠0 then(aM p.kind p.props).2
   else(aM 16 p.will.props).2):=aa (by rw[s.o,Fl (λy=>by rw[K]at y;cases y.1)])
  have k:=A
 rotate_left
 focus
  go_wp2_with fail;refine Yg (lw p.will.topic _ (by have:=i.o.texts;omega)) λY f=>?_;have k:=aa (A.o.below f);clear f g
  have g:=k.o.cell 0 rfl;cases C:fp p.will.topic
  ·have d:Hid (eR v p=10):=aa (by rw[s.o,if_pos ⟨K,C⟩]);clear C;go_wp2;go_ret;exact⟨by rw[d.o];rfl,k.o.kept⟩
  have l:Hid (eR v p=if 65535<p.will.payload.size\/65535<p.pass.size then 2
   else if(aM p.kind p.props).2≠0 then(aM p.kind p.props).2
   else(aM 16 p.will.props).2):=aa (by rw[s.o,Fl (λy=>by rw[C]at y;cases y.2)])
  clear C
 rotate_left
 all_goals
  by_cases x:65535<p.will.payload.size
  ·have R:(65535:Int)<(p.will.payload.size:Int):=by omega
   have d:Hid (eR v p=2):=aa (by rw[l.o,if_pos (.inl x)]);clear x;go_wp2;go_ret;exact⟨by rw[d.o];rfl,k.o.kept⟩
  have R:(p.will.payload.size:Int)<=65535:=by omega
  by_cases F:65535<p.pass.size
  ·have S:(65535:Int)<(p.pass.size:Int):=by omega
   have d:Hid (eR v p=2):=aa (by rw[l.o,if_pos (.inr F)]);clear x F;go_wp2;go_ret;exact⟨by rw[d.o];rfl,k.o.kept⟩
  have S:(p.pass.size:Int)<=65535:=by omega
  have J:Hid (eR v p=if(aM p.kind p.props).2≠0 then(aM p.kind p.props).2 else(aM 16 p.will.props).2):=aa (by rw[l.o,Fl (λy=>y.elim x F)]);clear x F;go_wp2_with fail;refine Yg (gu p.kind p.props _ rfl i.o.props h.props.a h.props.c _ (k.o.into 0 rfl).props i.o.len.2.2.2) λZ f=>?_;have B:=aa (k.o.below f);clear f g
  have g:=B.o.cell 0 rfl;by_cases n:(aM p.kind p.props).2=0;rotate_left
  ·have U:((aM p.kind p.props).2 !=0)=true:=aA.2 n;have d:Hid (eR v p=(aM p.kind p.props).2):=aa (by rw[J.o,if_pos n]);clear n;go_wp2;go_ret;exact⟨by rw[d.o];rfl,B.o.kept⟩
  rw[n];have d:Hid (eR v p=(aM 16 p.will.props).2):=aa (by rw[J.o,Fl (λy=>y n)]);clear n;go_wp2_with fail;refine Yg (gu 16 p.will.props _ rfl i.o.wp h.wp.a h.wp.c _ (B.o.into 0 rfl).wp i.o.len.1) λw7 f=>?_;have Q:=aa (B.o.below f);clear f g
  go_wp2;go_ret;exact⟨by rw[d.o];rfl,Q.o.kept⟩
end
end Go.Proofs.YtafoknnjekegkaaGreatDoor
namespace Go.Proofs.YtafoknnjekegkaaGreatDoor
open Go.RowKit Go.Shelf
open Go.Proofs.Tryz
def UJ:Ren:=⟨fun| 156=>211| 165=>270| 166=>271| 169=>272| 240=>301| 241=>302| 276=>333| 277=>334| n=>n,fun| 0=>0| 3=>3| 4=>4| 5=>5| 9=>9| 20=>20| 31=>42| 37=>139| 70=>224| 72=>226| 75=>229| 76=>230| 80=>164| 127=>256| 164=>279| n=>n,λn=>n⟩
theorem V8:Lays.n156 prog UJ where
 mixed:=by kernel_rfl
 f156:=func211.trans (congrArg some (by kernel_rfl))
 f165:=func270.trans (congrArg some (by kernel_rfl))
 f166:=func271.trans (congrArg some (by kernel_rfl))
 f169:=func272.trans (congrArg some (by kernel_rfl))
 f240:=func301.trans (congrArg some (by kernel_rfl))
 f241:=func302.trans (congrArg some (by kernel_rfl))
 f276:=func333.trans (congrArg some (by kernel_rfl))
 f277:=func334.trans (congrArg some (by kernel_rfl))
 t0:=underlying0
 a0:=Tryz.isAgg0
 z0:=Tryz.sizeOf0
 v0:=Tryz.zeroValue0
 t3:=underlying3
 a3:=Tryz.isAgg3
 z3:=Tryz.sizeOf3
 v3:=Tryz.zeroValue3
 t4:=underlying4
 a4:=Tryz.isAgg4
 z4:=Tryz.sizeOf4
 v4:=Tryz.zeroValue4
 t9:=underlying9
 a9:=Tryz.isAgg9
 z9:=Tryz.sizeOf9
 v9:=Tryz.zeroValue9
 t20:=underlying20
 a20:=Tryz.isAgg20
 z20:=Tryz.sizeOf20
 v20:=Tryz.zeroValue20
 t31:=underlying42
 a31:=Tryz.isAgg42
 z31:=Tryz.sizeOf42
 v31:=Tryz.zeroValue42
 t37:=underlying139
 a37:=Tryz.isAgg139
 z37:=Tryz.sizeOf139
 v37:=Tryz.zeroValue139
 t70:=underlying224
 a70:=Tryz.isAgg224
 z70:=Tryz.sizeOf224
 v70:=Tryz.zeroValue224
 t72:=underlying226
 a72:=Tryz.isAgg226
 z72:=Tryz.sizeOf226
 v72:=Tryz.zeroValue226
 t75:=underlying229
 a75:=Tryz.isAgg229
 z75:=Tryz.sizeOf229
 v75:=Tryz.zeroValue229
 t76:=underlying230
 a76:=Tryz.isAgg230
 z76:=Tryz.sizeOf230
 v76:=Tryz.zeroValue230
 t127:=underlying256
 a127:=Tryz.isAgg256
 z127:=Tryz.sizeOf256
 v127:=Tryz.zeroValue256
 t164:=underlying279
 a164:=Tryz.isAgg279
 z164:=Tryz.sizeOf279
 v164:=Tryz.zeroValue279
theorem VG:Builder.Extra prog UJ where
 sizeBuilder:=by kernel_rfl
 liesBuilder:=by kernel_rfl
 t5:=underlying5
 a5:=Tryz.isAgg5
 z5:=Tryz.sizeOf5
 v5:=Tryz.zeroValue5
 infoByte:=by kernel_rfl
 cellsByte:=by kernel_rfl
 sizeByte:=by kernel_rfl
 neB5:=by decide+kernel
def qK:List abO->abO
 | []=>⟨#[]⟩
 | x :: l=>x++qK l
theorem Vz(l:List (List UInt8)):Lib.join l []=l.flatten:=by
 cases l with
 | nil=>rfl
 | cons x r=>
   rw[Lib.join_cons];simp[Lib.joinTail]
theorem tD:∀(l:List abO),ls (qK l)=(l.map (·.data.toList)).flatten
 | []=>rfl
 | x :: l=>by
   rw[qK,fe,tD l];rfl
theorem Vi(l:List abO):(⟨(Lib.join (l.map (·.data.toList)) (⟨#[]⟩:abO).data.toList).toArray⟩:abO)=qK l:=by
 apply eX;rw[jo,tD];exact Vz _
theorem VN:∀(l:List abO),(Lib.join (l.map (·.data.toList)) (⟨#[]⟩:abO).data.toList).length=(qK l).size:=λl=>by
 rw[<-aN,<-Vi,jo]
theorem Uu(xs:List abO)(n c bk o:Nat)(hn:xs.length=n)(w:abP)(hcells:∀(j:Nat) x,xs[j]? =some x->w.cell? ⟨bk,o+j,none⟩=some (.string x))(hbk:bk<w.heap.size)(hN:n<=1000)(hcap:n<=c)(hlen:(qK xs).size<=140737488355328):
  abR 143 #[.slice (some ⟨bk,o,none⟩) n c] w (.string (qK xs)):=by
 subst hn;have a:=aa (Any.strings_Join V8 VG bk o c xs ⟨#[]⟩ w hcells hbk (by omega) hcap (by rw[VN];exact hlen));rw[Vi]at a;clear hcells hN hcap hlen;go_enter func143,ntmps143;go_wp2_with fail;refine Yg (a.o) λf b=>?_;have d:=aa b;clear b
 go_wp2;go_ret;exact⟨rfl,d.o⟩
def tW(v k:Int)(l:List Pr):abO:=if v=4 then⟨#[]⟩else⟨(aM k l).1.toArray⟩
theorem UG(v k:Int)(l:List Pr)(n:Nat)(hn:l.length=n)(hok:∀p∈l,qc p)(A:Option Addr)(c:Nat)(w:abP)(h:Rd w w.heap.size 4 A n (prs l))(hl:n<=4611686018427387904):
  abR 142 #[.int .i64 v,.int .i64 k,.slice A n c] w (.string (tW v k l)):=by
 subst hn;by_cases a:v=4
 ·have g:(v==4)=true:=aK.2 a;have b:Hid (tW v k l=⟨#[]⟩):=aa (if_pos a);clear a h hok;go_enter func142,ntmps142;go_wp2;go_ret;exact⟨by rw[b.o];rfl,aq _ _⟩
 ·have g:(v==4)=false:=ar.2 a;have b:Hid (tW v k l=⟨(aM k l).1.toArray⟩):=aa (Fl a);clear a;go_enter func142,ntmps142;go_wp2_with fail;refine Yg (UB k l _ rfl hok A c _ h hl) λi d=>?_;have f:=aa d;clear d
  go_wp2;go_ret;exact⟨by rw[b.o];rfl,f.o⟩
end Go.Proofs.YtafoknnjekegkaaGreatDoor
namespace Go.Proofs.YtafoknnjekegkaaGreatDoor
open Go.RowKit Go.Proofs.Tryz
section
theorem VM(w:abP)(a b c:abO)(t:TypeId):∀(j:Nat) x,[a,b,c][j]? =some x->(w.alloc (.cells #[.string a,.string b,.string c] t)).cell? ⟨w.heap.size,0+j,none⟩=some (.string x):=by
 intro j x h;rw[bV,(Bk.fresh w t #[.string a,.string b,.string c]).cell];rcases j with _| _| _| j
 ·simp at h;subst h;rfl
 ·simp at h;subst h;rfl
 ·simp at h;subst h;rfl
 ·simp at h
def vP(v:Int)(p:Pk):abO:=qK [⟨#[if p.session=true then 1 else 0]⟩,⟨(Yk p.code.toNat 1).toArray⟩,tW v p.kind p.props]
def Fg(v:Int)(p:Pk):abO×Int:=if eR v p=0 then(vP v p,0)else(⟨#[]⟩,eR v p)
theorem zo{c:Int}(h:ww c=true):0<=c/\c<256:=by
 unfold ww at h;simp at h;omega
theorem mM{v:Int}{p:Pk}(x:eR v p=0):kT v p=true/\(YF p.client=true/\YF p.user=true)/\(p.hasWill=true->fp p.will.topic=true)/\(p.will.payload.size<=65535/\p.pass.size<=65535)/\(aM p.kind p.props).2=0/\(aM 16 p.will.props).2=0:=by
 unfold eR at x;by_cases c:kT v p=false
 ·rw[if_pos c]at x;cases x
 rw[Fl c]at x;by_cases a:YF p.client=false\/YF p.user=false
 ·rw[if_pos a]at x;cases x
 rw[Fl a]at x;by_cases d:p.hasWill=true/\fp p.will.topic=false
 ·rw[if_pos d]at x;cases x
 rw[Fl d]at x;by_cases f:65535<p.will.payload.size\/65535<p.pass.size
 ·rw[if_pos f]at x;cases x
 rw[Fl f]at x;by_cases b:(aM p.kind p.props).2=0
 ·rw[Fl (λy=>y b)]at x;refine⟨by simpa using c,⟨?_,?_⟩,λg=>?_,⟨by omega,by omega⟩,b,x⟩
  ·cases e:YF p.client
   ·exact absurd (.inl e) a
   ·rfl
  ·cases e:YF p.user
   ·exact absurd (.inr e) a
   ·rfl
  ·cases e:fp p.will.topic
   ·exact absurd ⟨g,e⟩ d
   ·rfl
 ·rw[if_pos b]at x;exact absurd x b
theorem nq{v:Int}{p:Pk}(x:eR v p=0):YG v=true/\gm p.kind=true/\p=kS p/\dU v p=true:=by
 have:=(mM x).1;unfold kT at this;simp only[eh,cH]at this;exact⟨this.1,this.2.1,this.2.2.1,this.2.2.2⟩
theorem Av{v:Int}{p:Pk}(x:eR v p=0)(h2:p.kind=2):0<=p.code/\p.code<256:=by
 have h:=(nq x).2.2.2;unfold dU at h;by_cases b:v=4/\0<p.props.length+p.will.props.length
 ·rw[if_pos b]at h;cases h
 rw[Fl b,if_pos h2]at h;have a:i9 v p=true:=(Bool.and_eq_true_iff.1 h).1;unfold i9 at a;by_cases c:v=4
 ·rw[if_pos c]at a;exact zo a
 ·rw[Fl c]at a;exact Yp a
theorem U4(v:Int)(p:Pk)(h:Hs)(w:abP)(ip:PkIn w w.heap.size p h)(ok:PkOk p)(h2:p.kind=2):
  abR 100 #[.int .i64 v,pkV p h] w (.tuple #[.string (Fg v p).1,.int .i64 (Fg v p).2]):=by
 have y:=aa ok;have z:=aa ((St.start w).push ip);have F:Hid (Fg v p=if eR v p=0 then(vP v p,0)else(⟨#[]⟩,eR v p)):=aa rfl;have i:Hid (vP v p=qK [⟨#[if p.session=true then 1 else 0]⟩,⟨(Yk p.code.toNat 1).toArray⟩,tW v p.kind p.props]):=aa rfl;have Q:=z.o.ld 0 rfl;have k:=aa h2;clear ip ok h2;go_enter func100,ntmps100;go_wp2_with fail;refine Yg (Zh v p h _ (z.o.into 0 rfl) y.o) λL d=>?_;have n:=aa (z.o.below d);clear d Q
 by_cases f:eR v p=0;rotate_left
 ·have V:(eR v p !=0)=true:=aA.2 f;have l:Hid (Fg v p=(⟨#[]⟩,eR v p)):=aa (by rw[F.o,Fl f]);clear f;go_wp2;go_ret2;exact⟨by rw[l.o];rfl,n.o.kept⟩
 have l:Hid (Fg v p=(vP v p,0)):=aa (by rw[F.o,if_pos f]);have M:=aa (G6 p.kind p.props (mM f).2.2.2.2.1).2;have H:=Av f k.o;obtain⟨m,I,U⟩:∃m:Nat,Hid (p.code.toNat=m)/\IntKind.u64.wrap p.code=(m:Int):=⟨_,aa rfl,by rw[iZ];omega⟩;have G:Hid (m<256):=aa (by have:=I.out;omega);rw[f];have g:=n.o.cell 0 rfl;have J:L.cell? ⟨w.heap.size,0,none⟩=some (.int .i64 2):=by rw[g,cI,k.o]
 have K:L.cell? ⟨w.heap.size,24,none⟩=some (.slice h.props.a p.props.length h.props.c):=by rw[g,bR]
 clear f H g;go_wp2_with fail;rw[<-k.o];refine Yg (UG v p.kind p.props _ rfl y.o.props h.props.a h.props.c _ (n.o.into 0 rfl).props y.o.len.2.2.2) λE d=>?_;have A:=aa (n.o.below d);clear d J K
 have g:=A.o.cell 0 rfl;have W:E.cell? ⟨w.heap.size,0,none⟩=some (.int .i64 2):=by rw[g,cI,k.o]
 have Y:E.cell? ⟨w.heap.size,21,none⟩=some (.int .i64 p.code):=by rw[g,YB]
 have P:E.cell? ⟨w.heap.size,20,none⟩=some (.bool p.session):=by rw[g,YP]
 obtain⟨T,o⟩:∃T,tW v p.kind p.props=T:=⟨_,rfl⟩;have r:Hid (T.size<=131075004):=aa (by
  rw[<-o];unfold tW;split
  ·exact ag _
  ·rw[GW];exact M.o)
 obtain⟨X,q⟩:∃X:abO,(⟨(Yk m 1).toArray⟩:abO)=X:=⟨_,rfl⟩;have s:Hid (X.size=1):=aa (by rw[<-q,GW,fM]);have t:=aa q;rw[o,I.out,q]at i;rw[o];clear o q g;obtain⟨R,u⟩:∃b,p.session=b:=⟨_,rfl⟩;rw[u]at i P;clear u;cases R
 ·have x:Hid (vP v p=qK [⟨#[0]⟩,X,T]):=aa (by rw[i.o,Fl (by decide)]);clear i;go_wp2_with fail;refine Yg (pD m 1 _ (by have:=G.o;omega) (by omega) (by omega)) λj d=>?_;have B:=aa (A.o.below d);clear d
  rw[t.o];have C:=aa (B.o.alloc (.cells #[.string ⟨#[0]⟩,.string X,.string T] 9));go_wp2_with fail;refine Yg (Uu [⟨#[0]⟩,X,T] 3 3 j.heap.size 0 rfl _ (VM j _ _ _ _) (by simp) (by omega) (by omega) (by simp only[qK];rw[cK,cK,cK];have:=s.o;have:=r.o;have N:(⟨#[0]⟩:abO).size=1:=rfl;have O:(⟨#[]⟩:abO).size=0:=rfl;omega)) λS d=>?_;have D:=aa (C.o.below d);clear d
  go_wp2;go_ret2;exact⟨by rw[l.o,x.o];rfl,D.o.kept⟩
 ·have x:Hid (vP v p=qK [⟨#[1]⟩,X,T]):=aa (by rw[i.o,if_pos rfl]);clear i;go_wp2_with fail;refine Yg (pD m 1 _ (by have:=G.o;omega) (by omega) (by omega)) λj d=>?_;have B:=aa (A.o.below d);clear d
  rw[t.o];have C:=aa (B.o.alloc (.cells #[.string ⟨#[1]⟩,.string X,.string T] 9));go_wp2_with fail;refine Yg (Uu [⟨#[1]⟩,X,T] 3 3 j.heap.size 0 rfl _ (VM j _ _ _ _) (by simp) (by omega) (by omega) (by simp only[qK];rw[cK,cK,cK];have:=s.o;have:=r.o;have N:(⟨#[1]⟩:abO).size=1:=rfl;have O:(⟨#[]⟩:abO).size=0:=rfl;omega)) λS d=>?_;have D:=aa (C.o.below d);clear d
  go_wp2;go_ret2;exact⟨by rw[l.o,x.o];rfl,D.o.kept⟩
def pc(b:Bool)(n:Int):Int:=if b=true then n else 0
def flN(p:Pk):Int:=pc p.hasUser 128+pc p.hasPass 64+pc p.will.retain 32+p.will.qos% 4*8+pc p.hasWill 4+pc p.clean 2
def flQ(p:Pk):Int:=if p.kind=1 then flN p else 0
def flL(p:Pk):List (Bool×Int):=[(p.clean,2),(p.hasWill,4),(p.will.retain,32),(p.hasPass,64),(p.hasUser,128)]
def orF(m:Int):List (Bool×Int)->Int
 | []=>m
 | (b,n) :: l=>orF (if b=true then bits BinOp.or IntKind.i64 m n else m) l
theorem Wj(q:Int):bits BinOp.and IntKind.i64 q 3=q% 4:=by
 show IntKind.i64.wrap ((BitVec.ofInt 64 q&&& BitVec.ofInt 64 3).toNat:Int)=_;rw[BitVec.toNat_and,BitVec.toNat_ofInt,show(BitVec.ofInt 64 3).toNat=2^ 2- 1 from rfl,kC,aQ];omega
theorem VY:∀m:Fin 4,∀a b c d e:Bool,orF ((m.1:Int)*8) [(a,2),(b,4),(c,32),(d,64),(e,128)]=pc e 128+pc d 64+pc c 32+(m.1:Int)*8+pc b 4+pc a 2:=by decide+kernel
theorem VX(p:Pk):orF (p.will.qos% 4*8) (flL p)=flN p:=by
 obtain⟨m,a⟩:∃m:Fin 4,p.will.qos% 4=(m.1:Int):=⟨⟨(p.will.qos% 4).toNat,by omega⟩,by simp only;omega⟩;unfold flN flL;rw[a];exact VY m _ _ _ _ _
theorem NA(p:Pk):0<=flN p/\flN p<256:=by
 have:∀b n,pc b n=0\/pc b n=n:=λb n=>by unfold pc;split;exact .inr rfl;exact .inl rfl
 unfold flN;have a:=this p.hasUser 128;have c:=this p.hasPass 64;have d:=this p.will.retain 32;have e:=this p.hasWill 4;have f:=this p.clean 2
 omega
theorem UZ(p:Pk)(h:Hs)(w:abP):
  abR 144 #[pkV p h] w (.int .i64 (flQ p)):=by
 have t:=aa ((aq w.heap.size w).alloc (ac _) (.cells (pkC p h) PkT));have n:=aa (Bk.fresh w PkT (pkC p h));have M:=aa (VX p);go_enter func144,ntmps144;have K:=n.o.cell 0;rw[cI]at K;by_cases s:p.kind=1;rotate_left
 ·have E:(p.kind !=1)=true:=aA.2 s;have C:Hid (flQ p=0):=aa (Fl s);clear s;go_wp2;go_ret;exact⟨by rw[C.o];rfl,t.o⟩
 have E:(p.kind !=1)=false:=by simpa using s
 have C:Hid (flQ p=flN p):=aa (if_pos s);clear s;have L:=n.o.cell 7;have z:=n.o.cell 14;have A:=n.o.cell 17;have B:=n.o.cell 18;have y:=n.o.cell 12;have x:=n.o.cell 10;rw[dr]at L;rw[YM]at z;rw[cw]at A;rw[cu]at B;rw[YK]at y;rw[bW]at x;have H:=Wj p.will.qos;have J:IntKind.i64.wrap (p.will.qos% 4*8)=p.will.qos% 4*8:=by rw[aQ];omega
 go_wp2_with fail;have v:=aa (Bk.fresh (w.alloc (.cells (pkC p h) PkT)) 188 #[.bool p.clean,.int .i64 2,.bool p.hasWill,.int .i64 4,.bool p.will.retain,.int .i64 32,.bool p.hasPass,.int .i64 64,.bool p.hasUser,.int .i64 128]);have D:=aa (t.o.alloc t.o.size (.cells #[.bool p.clean,.int .i64 2,.bool p.hasWill,.int .i64 4,.bool p.will.retain,.int .i64 32,.bool p.hasPass,.int .i64 64,.bool p.hasUser,.int .i64 128] 188));rw[show(w.alloc (.cells (pkC p h) PkT)).heap.size=w.heap.size+1 by simp]at v;clear K L z A B y x H J E
 go_loopw [3,32] (λo i wr=>∃(k:Nat) (m:Int),k<=5/\i= .int .i64 k/\o= .int .i64 m/\orF m ((flL p).drop k)=flN p/\abQ w wr/\Bk wr (w.heap.size+1) 188 #[.bool p.clean,.int .i64 2,.bool p.hasWill,.int .i64 4,.bool p.will.retain,.int .i64 32,.bool p.hasPass,.int .i64 64,.bool p.hasUser,.int .i64 128]) (λ_ i _=>5- (intOf i).toNat)
 case atStart=>exact⟨0,_,by omega,rfl,rfl,M.o,D.o,v.o⟩
 case round=>
  obtain⟨k,m,N,rfl,rfl,F,I,G⟩:=hrel;have r:=aa F;have SR:=aa I;have g:=aa G
  clear F I G;obtain rfl| rfl| rfl| rfl| rfl| rfl:k=0\/k=1\/k=2\/k=3\/k=4\/k=5:=by omega
  ·have q:wr.cell? ⟨w.heap.size+1,0,none⟩=some (.bool p.clean):=g.o.cell 0;have u:wr.cell? ⟨w.heap.size+1,1,none⟩=some (.int .i64 2):=g.o.cell 1;have a:Hid (orF (if p.clean=true then bits BinOp.or IntKind.i64 m 2 else m) ((flL p).drop 1)=flN p):=aa (by have c:=r.o;exact c);have f:=aa (SR.o.alloc SR.o.size (.cells #[.bool p.clean,.int .i64 2] 188));have j:=aa (λV:Array Value=>g.o.alloc (.cells V 188))
   obtain⟨b,l⟩:∃b,p.clean=b:=⟨_,rfl⟩;rw[l]at q a f;clear l;cases b
   ·have d:Hid (orF m ((flL p).drop 1)=flN p):=aa (by have c:=a.o;rwa[Fl (by decide)]at c);clear a;go_wp2;go_roundw
    case rel=>exact⟨1,m,by omega,by go_num,rfl,d.o,f.o,j.o _⟩
    case measure=>simp[intOf]
   ·have d:Hid (orF (bits BinOp.or IntKind.i64 m 2) ((flL p).drop 1)=flN p):=aa (by have c:=a.o;rwa[if_pos rfl]at c);clear a;go_wp2;go_roundw
    case rel=>exact⟨1,_,by omega,by go_num,rfl,d.o,f.o,j.o _⟩
    case measure=>simp[intOf]
  ·have q:wr.cell? ⟨w.heap.size+1,2,none⟩=some (.bool p.hasWill):=g.o.cell 2;have u:wr.cell? ⟨w.heap.size+1,3,none⟩=some (.int .i64 4):=g.o.cell 3;have a:Hid (orF (if p.hasWill=true then bits BinOp.or IntKind.i64 m 4 else m) ((flL p).drop 2)=flN p):=aa (by have c:=r.o;exact c);have f:=aa (SR.o.alloc SR.o.size (.cells #[.bool p.hasWill,.int .i64 4] 188));have j:=aa (λV:Array Value=>g.o.alloc (.cells V 188))
   obtain⟨b,l⟩:∃b,p.hasWill=b:=⟨_,rfl⟩;rw[l]at q a f;clear l;cases b
   ·have d:Hid (orF m ((flL p).drop 2)=flN p):=aa (by have c:=a.o;rwa[Fl (by decide)]at c);clear a;go_wp2;go_roundw
    case rel=>exact⟨2,m,by omega,by go_num,rfl,d.o,f.o,j.o _⟩
    case measure=>simp[intOf]
   ·have d:Hid (orF (bits BinOp.or IntKind.i64 m 4) ((flL p).drop 2)=flN p):=aa (by have c:=a.o;rwa[if_pos rfl]at c);clear a;go_wp2;go_roundw
    case rel=>exact⟨2,_,by omega,by go_num,rfl,d.o,f.o,j.o _⟩
    case measure=>simp[intOf]
  ·have q:wr.cell? ⟨w.heap.size+1,4,none⟩=some (.bool p.will.retain):=g.o.cell 4;have u:wr.cell? ⟨w.heap.size+1,5,none⟩=some (.int .i64 32):=g.o.cell 5;have a:Hid (orF (if p.will.retain=true then bits BinOp.or IntKind.i64 m 32 else m) ((flL p).drop 3)=flN p):=aa (by have c:=r.o;exact c);have f:=aa (SR.o.alloc SR.o.size (.cells #[.bool p.will.retain,.int .i64 32] 188));have j:=aa (λV:Array Value=>g.o.alloc (.cells V 188))
   obtain⟨b,l⟩:∃b,p.will.retain=b:=⟨_,rfl⟩;rw[l]at q a f;clear l;cases b
   ·have d:Hid (orF m ((flL p).drop 3)=flN p):=aa (by have c:=a.o;rwa[Fl (by decide)]at c);clear a;go_wp2;go_roundw
    case rel=>exact⟨3,m,by omega,by go_num,rfl,d.o,f.o,j.o _⟩
    case measure=>simp[intOf]
   ·have d:Hid (orF (bits BinOp.or IntKind.i64 m 32) ((flL p).drop 3)=flN p):=aa (by have c:=a.o;rwa[if_pos rfl]at c);clear a;go_wp2;go_roundw
    case rel=>exact⟨3,_,by omega,by go_num,rfl,d.o,f.o,j.o _⟩
    case measure=>simp[intOf]
  ·have q:wr.cell? ⟨w.heap.size+1,6,none⟩=some (.bool p.hasPass):=g.o.cell 6;have u:wr.cell? ⟨w.heap.size+1,7,none⟩=some (.int .i64 64):=g.o.cell 7;have a:Hid (orF (if p.hasPass=true then bits BinOp.or IntKind.i64 m 64 else m) ((flL p).drop 4)=flN p):=aa (by have c:=r.o;exact c);have f:=aa (SR.o.alloc SR.o.size (.cells #[.bool p.hasPass,.int .i64 64] 188));have j:=aa (λV:Array Value=>g.o.alloc (.cells V 188))
   obtain⟨b,l⟩:∃b,p.hasPass=b:=⟨_,rfl⟩;rw[l]at q a f;clear l;cases b
   ·have d:Hid (orF m ((flL p).drop 4)=flN p):=aa (by have c:=a.o;rwa[Fl (by decide)]at c);clear a;go_wp2;go_roundw
    case rel=>exact⟨4,m,by omega,by go_num,rfl,d.o,f.o,j.o _⟩
    case measure=>simp[intOf]
   ·have d:Hid (orF (bits BinOp.or IntKind.i64 m 64) ((flL p).drop 4)=flN p):=aa (by have c:=a.o;rwa[if_pos rfl]at c);clear a;go_wp2;go_roundw
    case rel=>exact⟨4,_,by omega,by go_num,rfl,d.o,f.o,j.o _⟩
    case measure=>simp[intOf]
  ·have q:wr.cell? ⟨w.heap.size+1,8,none⟩=some (.bool p.hasUser):=g.o.cell 8;have u:wr.cell? ⟨w.heap.size+1,9,none⟩=some (.int .i64 128):=g.o.cell 9;have a:Hid (orF (if p.hasUser=true then bits BinOp.or IntKind.i64 m 128 else m) ((flL p).drop 5)=flN p):=aa (by have c:=r.o;exact c);have f:=aa (SR.o.alloc SR.o.size (.cells #[.bool p.hasUser,.int .i64 128] 188));have j:=aa (λV:Array Value=>g.o.alloc (.cells V 188))
   obtain⟨b,l⟩:∃b,p.hasUser=b:=⟨_,rfl⟩;rw[l]at q a f;clear l;cases b
   ·have d:Hid (orF m ((flL p).drop 5)=flN p):=aa (by have c:=a.o;rwa[Fl (by decide)]at c);clear a;go_wp2;go_roundw
    case rel=>exact⟨5,m,by omega,by go_num,rfl,d.o,f.o,j.o _⟩
    case measure=>simp[intOf]
   ·have d:Hid (orF (bits BinOp.or IntKind.i64 m 128) ((flL p).drop 5)=flN p):=aa (by have c:=a.o;rwa[if_pos rfl]at c);clear a;go_wp2;go_roundw
    case rel=>exact⟨5,_,by omega,by go_num,rfl,d.o,f.o,j.o _⟩
    case measure=>simp[intOf]
  ·have d:Hid (m=flN p):=aa r.o;go_wp2;go_ret;exact⟨by rw[C.o,d.o];rfl,SR.o⟩
def qE(s:abO):abO:=if s.size<=65535 then cQ s else⟨#[]⟩
def i8:abO:=⟨#[0,4,77,81,84,84]⟩
def yK(v:Int)(p:Pk):abO:=qK [i8,⟨(Yk v.toNat 1).toArray⟩,⟨(Yk (flN p).toNat 1).toArray⟩,⟨(Yk p.alive.toNat 2).toArray⟩,tW v p.kind p.props,qE p.client]
def yJ(v:Int)(p:Pk):abO:=if p.hasWill=true then qK [yK v p,tW v 16 p.will.props,qE p.will.topic,qE p.will.payload]else yK v p
def yI(v:Int)(p:Pk):abO:=if p.hasUser=true then qK [yJ v p,qE p.user]else yJ v p
def EY(v:Int)(p:Pk):abO:=if p.hasPass=true then qK [yI v p,qE p.pass]else yI v p
def Dm(v:Int)(p:Pk):abO×Int:=if p.kind=2 then Fg v p else if eR v p=0 then(EY v p,0)else(⟨#[]⟩,eR v p)
def fh(e n:Int):Int:=if e=0 then n else e
theorem gW{e n:Int}(h:fh e n=0)(hn:n≠0):False:=by
 unfold fh at h;split at h
 ·exact hn h
 ·next x=>exact x h
def Y3(t:abO)(a:Nat)(e:Int):abO×Nat×Int:=aH t (aH t a e 2).2.1 (aH t a e 2).2.2 (br t a e 2:Nat)
theorem nw(t:abO)(a:Nat)(e:Int)(ha:a<=t.size):(Y3 t a e).1.size<=65535:=
 kI (dy ha e 2) _ _ 65535 (by have:=gU t a e ha;omega)
theorem pH(t:abO)(a:Nat)(e:Int)(ha:a<=t.size):(Y3 t a e).2.1<=t.size:=dy (dy ha e 2) _ _
def fX(t:abO)(a:Nat)(e:Int):abO×Nat×Int:=((Y3 t a e).1,(Y3 t a e).2.1,if YF (Y3 t a e).1=true then(Y3 t a e).2.2 else fh (Y3 t a e).2.2 6)
def fv(v kind:Int)(t:abO)(a:Nat)(e:Int):List Pr×Nat×Int:=
 if v=4\/e≠0 then([],a,e)else((aZ kind (t.extract a t.size)).1,a+(aZ kind (t.extract a t.size)).2.1,(aZ kind (t.extract a t.size)).2.2)
def tu(v:Int)(f:Nat):Bool:=
 !(decide (f% 2=1) || decide (f/ 8% 4=3) || (!decide (f/ 4% 2=1)&&decide (f/ 8% 8≠0)))&&(decide (v=5) || !decide (f/ 64% 2=1) || decide (f/ 128% 2=1))
def xz(f k:Nat)(c:abO)(l:List Pr):Pk:=
 {pk0 with kind:=1,clean:=decide (f/ 2% 2=1),alive:=(k:Int),client:=c,hasUser:=decide (f/ 128% 2=1),hasPass:=decide (f/ 64% 2=1),hasWill:=decide (f/ 4% 2=1),will:={wl0 with qos:=((f/ 8% 4:Nat):Int),retain:=decide (f/ 32% 2=1)},props:=l}
def stN(s:abO):Nat×Int:=((aH s 0 0 6).2.1,if(aH s 0 0 6).1=i8 then(aH s 0 0 6).2.2 else fh (aH s 0 0 6).2.2 5)
def stV(v:Int)(s:abO)(a:Nat)(e:Int):Nat×Int:=((aH s a e 1).2.1,if((br s a e 1:Nat):Int)=v then(aH s a e 1).2.2 else fh (aH s a e 1).2.2 5)
def stG(v:Int)(s:abO)(a:Nat)(e:Int):Nat×Nat×Int:=(br s a e 1,(aH s a e 1).2.1,if tu v (br s a e 1)=true then(aH s a e 1).2.2 else fh (aH s a e 1).2.2 7)
def stK(s:abO)(a:Nat)(e:Int):Nat×Nat×Int:=(br s a e 2,(aH s a e 2).2.1,(aH s a e 2).2.2)
def cnV(v:Int)(s:abO):Nat×Int:=stV v s (stN s).1 (stN s).2
def cnF(v:Int)(s:abO):Nat×Nat×Int:=stG v s (cnV v s).1 (cnV v s).2
def cnK(v:Int)(s:abO):Nat×Nat×Int:=stK s (cnF v s).2.1 (cnF v s).2.2
def cnP(v:Int)(s:abO):List Pr×Nat×Int:=fv v 1 s (cnK v s).2.1 (cnK v s).2.2
def cnT(v:Int)(s:abO):abO×Nat×Int:=fX s (cnP v s).2.1 (cnP v s).2.2
def cn1(v:Int)(s:abO):Pk×Nat×Int:=(xz (cnF v s).1 (cnK v s).1 (cnT v s).1 (cnP v s).1,(cnT v s).2.1,(cnT v s).2.2)
def ZK(v:Int)(s:abO)(a:Nat)(e:Int):List Pr×Nat×Int:=fv v 16 s a e
def rz(v:Int)(s:abO)(a:Nat)(e:Int):abO×Nat×Int:=fX s (ZK v s a e).2.1 (ZK v s a e).2.2
def Aw(v:Int)(s:abO)(a:Nat)(e:Int):abO×Nat×Int:=Y3 s (rz v s a e).2.1 (rz v s a e).2.2
def cn2(v:Int)(s:abO)(r:Pk×Nat×Int):Pk×Nat×Int:=
 if r.1.hasWill=true then({r.1 with will:={r.1.will with props:=(ZK v s r.2.1 r.2.2).1,topic:=(rz v s r.2.1 r.2.2).1,payload:=(Aw v s r.2.1 r.2.2).1}},(Aw v s r.2.1 r.2.2).2.1,(Aw v s r.2.1 r.2.2).2.2)else r
def cn3(s:abO)(r:Pk×Nat×Int):Pk×Nat×Int:=if r.1.hasUser=true then({r.1 with user:=(fX s r.2.1 r.2.2).1},(fX s r.2.1 r.2.2).2.1,(fX s r.2.1 r.2.2).2.2)else r
def cn4(s:abO)(r:Pk×Nat×Int):Pk×Nat×Int:=if r.1.hasPass=true then({r.1 with pass:=(Y3 s r.2.1 r.2.2).1},(Y3 s r.2.1 r.2.2).2.1,(Y3 s r.2.1 r.2.2).2.2)else r
def jS(v:Int)(s:abO):Pk×Nat×Int:=cn4 s (cn3 s (cn2 v s (cn1 v s)))
def caF(s:abO):Nat×Nat×Int:=(br s 0 0 1,(aH s 0 0 1).2.1,if br s 0 0 1<=1 then(aH s 0 0 1).2.2 else fh (aH s 0 0 1).2.2 7)
def caC(s:abO):Nat×Nat×Int:=(br s (caF s).2.1 (caF s).2.2 1,(aH s (caF s).2.1 (caF s).2.2 1).2.1,(aH s (caF s).2.1 (caF s).2.2 1).2.2)
def caP(v:Int)(s:abO):List Pr×Nat×Int:=fv v 2 s (caC s).2.1 (caC s).2.2
def Ds(f c:Nat)(l:List Pr):Pk:={pk0 with kind:=2,session:=decide (f=1),code:=(c:Int),props:=l}
def lL(v:Int)(s:abO):Pk×Nat×Int:=(Ds (caF s).1 (caC s).1 (caP v s).1,(caP v s).2.1,(caP v s).2.2)
def oV(s:abO)(r:Pk×Nat×Int):Int:=if s.size- r.2.1=0 then r.2.2 else fh r.2.2 5
def jT(v:Int)(s:abO)(r:Pk×Nat×Int):Pk×Int:=
 if oV s r≠0 then(pk0,oV s r)else if eR v r.1≠0 then(pk0,eR v r.1)else(r.1,0)
def iB(v k:Int)(s:abO):Pk×Int:=
 if YG v=false\/gm k=false then(pk0,2)else jT v s (if k=1 then jS v s else lL v s)
theorem i7{t:abO}{a:Nat}{e:Int}{k:Nat}(h:(aH t a e k).2.2=0):e=0/\a+k<=t.size/\aH t a 0 k=(t.extract a (a+k),a+k,0):=by
 by_cases b:e=0
 ·subst b;by_cases c:a+k<=t.size
  ·exact⟨rfl,c,dZ c⟩
  ·rw[kH c]at h;cases h
 ·rw[fY b]at h;exact absurd h b
theorem xU{t:abO}{a k:Nat}(_h:a+k<=t.size):(ls t).drop a=ls (t.extract a (a+k))++(ls t).drop (a+k):=by
 rw[Ym,<-ab2,cg]
theorem xC{t:abO}{a:Nat}{e:Int}(h:(Y3 t a e).2.2=0):e=0/\(Y3 t a e).2.1<=t.size/\(Y3 t a e).1.size<=65535/\(ls t).drop a=Yk (Y3 t a e).1.size 2++(ls (Y3 t a e).1++(ls t).drop (Y3 t a e).2.1):=by
 obtain⟨j,b,f⟩:=i7 h;obtain⟨o,l,m⟩:=i7 (k:=2) j;subst o;have c:aH t a 0 2=(t.extract a (a+2),a+2,0):=m;have g:a<=t.size:=by omega
 have d:=nw t a 0 g;have n:Y3 t a 0=(t.extract (a+2) (a+2+br t a 0 2),a+2+br t a 0 2,0):=by
  rw[c]at f b;unfold Y3;rw[c];exact f
 rw[c]at b;simp only at b;rw[n]at d⊢;simp only at d⊢;have i:(t.extract (a+2) (a+2+br t a 0 2)).size=br t a 0 2:=by rw[aj];omega
 refine⟨trivial,b,d,?_⟩;rw[i,<-xU b];exact lY l
theorem sC{t:abO}{a:Nat}{e:Int}(h:(fX t a e).2.2=0):e=0/\(fX t a e).2.1<=t.size/\(fX t a e).1.size<=65535/\YF (fX t a e).1=true/\(ls t).drop a=Yk (fX t a e).1.size 2++(ls (fX t a e).1++(ls t).drop (fX t a e).2.1):=by
 unfold fX at h⊢;simp only at h⊢;by_cases b:YF (Y3 t a e).1=true
 ·rw[if_pos b]at h;obtain⟨c,d,f,g⟩:=xC h;exact⟨c,d,f,b,g⟩
 ·rw[Fl b]at h;exact(gW h (by decide)).elim
def gP(v k:Int)(l:List Pr):List UInt8:=if v=4 then []else(aM k l).1
theorem pL(v k:Int)(l:List Pr):ls (tW v k l)=gP v k l:=by
 unfold tW gP;split
 ·rfl
 ·exact jo _
theorem yv{v k:Int}{t:abO}{a:Nat}{e:Int}(ha:a<=t.size)(h:(fv v k t a e).2.2=0):e=0/\(fv v k t a e).2.1<=t.size/\(v=4->(fv v k t a e).1=[])/\(aM k (fv v k t a e).1).2=0/\(ls t).drop a=gP v k (fv v k t a e).1++(ls t).drop (fv v k t a e).2.1:=by
 unfold fv at h⊢;by_cases b:v=4\/e≠0
 ·rw[if_pos b]at h⊢;simp only at h⊢;have c:v=4:=b.resolve_right (λx=>x h);refine⟨h,ha,λ_=>trivial,by rw[vL],?_⟩;unfold gP;rw[if_pos c];rfl
 ·rw[Fl b]at h⊢;simp only at h⊢;have i:e=0:=aU.1 λx=>b (.inr x);have c:v≠4:=λx=>b (.inl x);obtain⟨d,f,g⟩:=fd (kind:=k) (s:=t.extract a t.size) (l:=(aZ k (t.extract a t.size)).1) (n:=(aZ k (t.extract a t.size)).2.1) (by rw[<-h]);rw[aj]at g;refine⟨i,by omega,λx=>absurd x c,d,?_⟩;unfold gP;rw[Fl c,f,ju,<-ab2,cg]
def fS(p:Pk)(r:List UInt8):List UInt8:=if p.hasPass=true then Yk p.pass.size 2++(ls p.pass++r)else r
def fU(p:Pk)(r:List UInt8):List UInt8:=if p.hasUser=true then Yk p.user.size 2++(ls p.user++r)else r
def fW(v:Int)(p:Pk)(r:List UInt8):List UInt8:=if p.hasWill=true then gP v 16 p.will.props++(Yk p.will.topic.size 2++(ls p.will.topic++(Yk p.will.payload.size 2++(ls p.will.payload++r))))else r
def f1(v:Int)(p:Pk)(r:List UInt8):List UInt8:=ls i8++(Yk v.toNat 1++(Yk (flN p).toNat 1++(Yk p.alive.toNat 2++(gP v 1 p.props++(Yk p.client.size 2++(ls p.client++r))))))
theorem lK(x:abO)(l:List abO):ls (qK (x :: l))=ls x++ls (qK l):=by
 rw[tD,tD];rfl
theorem nt:ls (qK [])=[]:=by rw[tD];rfl
theorem lI{x:abO}(h:x.size<=65535):ls (qE x)=Yk x.size 2++ls x:=by
 unfold qE;rw[if_pos h];have:=oa x ⟨#[]⟩;rw[show ls (⟨#[]⟩:abO)=[]from rfl,YO]at this;rw[<-this]
 congr 1
 exact eX (by unfold cQ;simp[ls])
theorem uV{x:abO}(hv:fp x=true):YF x=true:=by
 unfold fp jY at hv;simp only[eh]at hv;exact hv.1.2
structure CnGood (v:Int) (p:Pk):Prop where
 ver:v=4\/v=5
 kind:p.kind=1
 same:p=kS p
 old:v=4->p.props=[]/\p.will.props=[]
 alive:0<=p.alive/\p.alive<65536
 qos:0<=p.will.qos/\p.will.qos<=2
 pair:v=4->p.hasPass=true->p.hasUser=true
 client:YF p.client=true
 user:YF p.user=true
 topic:p.hasWill=true->YF p.will.topic=true
 payload:p.will.payload.size<=65535
 pass:p.pass.size<=65535
 props:(aM 1 p.props).2=0
 wprops:(aM 16 p.will.props).2=0
theorem Gk{v:Int}{p:Pk}(g:CnGood v p)(r:List UInt8):ls (EY v p)++r=f1 v p (fW v p (fU p (fS p r))):=by
 have d:=lI (gL g.client);have e:=lI (gL g.user);have f:=lI g.pass;have i:=lI g.payload;have a:∀R,ls (yK v p)++R=f1 v p R:=λR=>by
  unfold yK f1;simp only[lK,nt,jo,pL,d,g.kind,List.append_assoc,YO]
 have b:∀R,ls (yJ v p)++R=f1 v p (fW v p R):=λR=>by
  unfold yJ fW;by_cases h:p.hasWill=true
  ·rw[if_pos h,if_pos h,<-a];simp only[lK,nt,pL,lI (gL (g.topic h)),i,List.append_assoc,YO]
  ·rw[Fl h,Fl h,a]
 have c:∀R,ls (yI v p)++R=f1 v p (fW v p (fU p R)):=λR=>by
  unfold yI fU;by_cases h:p.hasUser=true
  ·rw[if_pos h,if_pos h,<-b];simp only[lK,nt,e,List.append_assoc,YO]
  ·rw[Fl h,Fl h,b]
 unfold EY fS;by_cases h:p.hasPass=true
 ·rw[if_pos h,if_pos h,<-c];simp only[lK,nt,f,List.append_assoc,YO]
 ·rw[Fl h,Fl h,c]
end
