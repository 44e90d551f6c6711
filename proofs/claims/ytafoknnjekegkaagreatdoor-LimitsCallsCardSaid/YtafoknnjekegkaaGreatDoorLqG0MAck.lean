/- Parts: MAck. -/
import Derived.Test.YtafoknnjekegkaaGreatDoorLqG0MPk
import Derived.Test.YtafoknnjekegkaaGreatDoorLqG0MReaA
import Derived.Laws.ResultCell
set_option maxRecDepth 10000
set_option maxHeartbeats 8000000
namespace Go.Proofs.YtafoknnjekegkaaGreatDoor
open Go.RowKit Go.Proofs.Tryz
variable {p:Pk}{w:abP}{h:Hs}{g:Nat}
section
attribute [go_sem ↓] bD bF bH bI bu
attribute [go_sem] bc aD bh bg bK bJ bd aO ax cI dC dB dt dj di dA dr dp dn bW co YK bZ YM cz cy cw cu YL YP YB bS bP bR
def pe(v k:Int):Bool:=decide ((v=4\/v=5)/\4<=k/\k<=7)
theorem Ys(v k:Int)(w:abP):abT 156 #[.int .i64 v,.int .i64 k] w (.bool (pe v k)):=by
 go_enter func156,ntmps156;go_wp2
 all_goals
  go_ret;refine⟨eT ?_,rfl⟩;unfold pe
  simp_all<;>omega
def qS(p:Pk):Pk:={pk0 with kind:=p.kind,id:=p.id,code:=p.code,props:=p.props}
def vU(h:Hs):Hs:={hs0 with props:=h.props}
def eS(v:Int)(p:Pk):Int:=
 if pe v p.kind=false\/p.id<=0\/65536<=p.id\/may p.kind p.code=false then 2
 else if v=4/\(p.code≠0\/p.props.length≠0)then 2
 else if p≠qS p then 2
 else(aM p.kind p.props).2
theorem Fh{B:Nat}(x:PkIn w B p h):PkIn w B (qS p) (vU h):=⟨Rd.nil _ _ _ _,Rd.nil _ _ _ _,Rd.nil _ _ _ _,x.props,ag _,ag _,ag _,x.caps.2.2.2⟩
theorem PkOk.len(x:PkOk p):gz p:=by
 obtain⟨a,b,c,d⟩:=x.lens;exact⟨by omega,by omega,by omega,by omega⟩
theorem Dy(x:gz p):gz (qS p):=⟨ag _,ag _,ag _,x.2.2.2⟩
theorem fb(v:Int)(p:Pk)(h:Hs)(w:abP)(ip:PkIn w w.heap.size p h)(ok:PkOk p):
  abR 154 #[.int .i64 v,pkV p h] w (.int .i64 (eS v p)):=by
 have B:=aa ip;have t:=aa ok;clear ip ok
 have r:=aa ((aq w.heap.size w).alloc (ac _) (.cells (pkC p h) PkT));have E:=aa (Bk.fresh w PkT (pkC p h));have n:Hid (eS v p=if pe v p.kind=false\/p.id<=0\/65536<=p.id\/may p.kind p.code=false then 2 else if v=4/\(p.code≠0\/p.props.length≠0)then 2 else if p≠qS p then 2 else(aM p.kind p.props).2):=aa rfl;go_enter func154,ntmps154;go_wp2_with fail;refine(Ys v p.kind _).mono ?_;rintro e P ⟨rfl,rfl⟩;cases C:pe v p.kind
 ·have d:Hid (eS v p=2):=aa (by rw[n.o,if_pos (.inl C)]);go_wp2;go_ret;exact⟨by rw[d.o];rfl,r.o⟩
 focus
  by_cases s:p.id<=0
  ·have d:Hid (eS v p=2):=aa (by rw[n.o,if_pos (.inr (.inl s))]);go_wp2;go_ret;exact⟨by rw[d.o];rfl,r.o⟩
  focus
   have S:decide (p.id<=0)=false:=ah s;have Q:0<p.id:=by omega
   by_cases u:65536<=p.id
   ·have d:Hid (eS v p=2):=aa (by rw[n.o,if_pos (.inr (.inr (.inl u)))]);clear s;go_wp2;go_ret;exact⟨by rw[d.o];rfl,r.o⟩
   focus
    have T:decide (65536<=p.id)=false:=ah u;have R:p.id<65536:=by omega
    have z:=aa (And.intro s u);clear s u;go_wp2_with fail;refine Yg (m7 p.kind p.code _) λP f=>?_;have b:=aa (Yf r.o f);have m:=aa (Yh E.o f)
    clear f;have N:=λi=>m.o.cell i;cases y:may p.kind p.code
    ·have d:Hid (eS v p=2):=aa (by rw[n.o,if_pos (.inr (.inr (.inr y)))]);clear y;go_wp2;go_ret;exact⟨by rw[d.o];rfl,b.o⟩
    focus
     have l:Hid (eS v p=if v=4/\(p.code≠0\/p.props.length≠0)then 2 else if p≠qS p then 2 else(aM p.kind p.props).2):=aa (by
      rw[n.o,Fl];rintro (x| x| x| x)
      ·rw[C]at x;cases x
      ·have:=z.o.1;omega
      ·have:=z.o.2;omega
      ·rw[y]at x;cases x)
     clear y C n;by_cases j:v=4/\(p.code≠0\/p.props.length≠0)
     ·have d:Hid (eS v p=2):=aa (by rw[l.o,if_pos j]);obtain⟨rfl,I⟩:=j;by_cases k:p.code=0
      ·have H:(p.code !=0)=false:=by simpa using k
       have L:((p.props.length:Int) !=0)=true:=aA.2 (by omega);clear k I;go_wp2;go_ret;exact⟨by rw[d.o];rfl,b.o⟩
      ·have H:(p.code !=0)=true:=aA.2 k;clear k I;go_wp2;go_ret;exact⟨by rw[d.o];rfl,b.o⟩
     focus
      have A:Hid (eS v p=if p≠qS p then 2 else(aM p.kind p.props).2):=aa (by rw[l.o,Fl j]);have G:=aa (cf m.o);by_cases q:v=4
      focus
       have k:p.code=0:=by
        rcases Decidable.em (p.code=0)with x| x
        ·exact x
        ·exact absurd ⟨q,.inl x⟩ j
       have M:p.props.length=0:=by
        rcases Decidable.em (p.props.length=0)with x| x
        ·exact x
        ·exact absurd ⟨q,.inr x⟩ j
       have K:(v==4)=true:=aK.2 q;have H:(p.code !=0)=false:=by simpa using k
       have L:((p.props.length:Int) !=0)=false:=by simpa using (show(p.props.length:Int)=0 by omega)
       have J:=G.o;clear j q k M l
      rotate_left
      focus
       have K:(v==4)=false:=ar.2 q;have J:=G.o;clear j q l
      rotate_left
     rotate_left 2
    rotate_left 2
   rotate_left 2
  rotate_left 2
 rotate_left 2
 all_goals
  go_wp2_with fail;refine Yg (jE p (qS p) h (vU h) _ ((B.o.below b.o).wider b.o.size) (Fh ((B.o.below b.o).wider b.o.size)) t.o.len (Dy t.o.len)) λU f=>?_;have g:=aa (Yf b.o f);have F:=aa (Yh m.o f)
  clear f N J;have O:=λi=>F.o.cell i;by_cases o:p=qS p
  ·rw[au o];have d:Hid (eS v p=(aM p.kind p.props).2):=aa (by rw[A.o,Fl (λx=>x o)]);clear o;go_wp2_with fail;refine Yg (gu p.kind p.props _ rfl t.o.props h.props.a h.props.c _ ((B.o.below g.o).wider g.o.size).props t.o.len.2.2.2) λV f=>?_;have D:=aa (Yf g.o f);clear f O;go_wp2;go_ret;exact⟨by rw[d.o];rfl,D.o⟩
  ·rw[ah o];have d:Hid (eS v p=2):=aa (by rw[A.o,if_pos o]);clear o;go_wp2;go_ret;exact⟨by rw[d.o];rfl,g.o⟩
structure AckGood (v:Int) (p:Pk):Prop where
 k:pe v p.kind=true
 id1:0<p.id
 id2:p.id<65536
 may:may p.kind p.code=true
 c1:0<=p.code
 c2:p.code<256
 old:v=4->p.code=0/\p.props=[]
 same:p=qS p
 bytes:(aM p.kind p.props).2=0
theorem AJ{v:Int}(x:eS v p=0):AckGood v p:=by
 unfold eS at x;split at x
 ·cases x
 ·next h=>
  split at x
  ·cases x
  ·next h4=>
   split at x
   ·cases x
   ·next hs=>
    have a:Go.Proofs.YtafoknnjekegkaaGreatDoor.may p.kind p.code=true:=by
     cases e:Go.Proofs.YtafoknnjekegkaaGreatDoor.may p.kind p.code
     ·exact absurd (.inr (.inr (.inr e))) h
     ·rfl
    have b:=Yp a;refine⟨?_,?_,?_,a,b.1,b.2,?_,aU.1 hs,x⟩
    ·cases e:pe v p.kind
     ·exact absurd (.inl e) h
     ·rfl
    ·exact Int.not_le.1 λe=>h (.inr (.inl e))
    ·exact Int.not_le.1 λe=>h (.inr (.inr (.inl e)))
    ·intro c;refine⟨aU.1 λe=>h4 ⟨c,.inl e⟩,?_⟩;have:=aU.1 λe=>h4 ⟨c,.inr e⟩;exact aF this
theorem AckGood.ok{v:Int}(x:AckGood v p):eS v p=0:=by
 unfold eS;rw[Fl,Fl,Fl]
 ·exact x.bytes
 ·exact λh=>h x.same
 ·rintro ⟨b,a⟩;have:=x.old b;rcases a with a| a
  ·exact a this.1
  ·rw[this.2]at a;exact a rfl
 ·rintro (h| h| h| h)
  ·rw[x.k]at h;cases h
  ·have:=x.id1;omega
  ·have:=x.id2;omega
  ·rw[x.may]at h;cases h
def Fa(p:Pk):List UInt8:=if p.code=0/\p.props.length=0 then []else Yk p.code.toNat 1++(if p.props.length=0 then []else(aM p.kind p.props).1)
def Ga(v:Int)(p:Pk):List UInt8×Int:=if eS v p=0 then(Yk p.id.toNat 2++Fa p,0)else([],eS v p)
theorem ap2(a b:List UInt8):(⟨a.toArray⟩:abO)++⟨b.toArray⟩=⟨(a++b).toArray⟩:=by
 apply ByteArray.ext;simp
theorem ap3(a b:List UInt8)(c:List UInt8):(⟨(a++b).toArray⟩:abO)++⟨c.toArray⟩=⟨(a++(b++c)).toArray⟩:=by
 rw[ap2,List.append_assoc]
theorem Vn(v:Int)(p:Pk)(h:Hs)(w:abP)(ip:PkIn w w.heap.size p h)(ok:PkOk p):
  abR 102 #[.int .i64 v,pkV p h] w (.tuple #[.string ⟨(Ga v p).1.toArray⟩,.int .i64 (Ga v p).2]):=by
 have F:=aa ip;have B:=aa ok;clear ip ok
 have z:=aa ((aq w.heap.size w).alloc (ac _) (.cells (pkC p h) PkT));have E:=aa (Bk.fresh w PkT (pkC p h));have D:Hid (Ga v p=if eS v p=0 then(Yk p.id.toNat 2++Fa p,0)else([],eS v p)):=aa rfl;go_enter func102,ntmps102;go_wp2_with fail;refine Yg (fb v p h _ ((F.o.below z.o).wider z.o.size) B.o) λR b=>?_;have o:=aa (Yf z.o b);have q:=aa (Yh E.o b)
 clear b;have L:=λi=>q.o.cell i;by_cases l:eS v p=0
 ·have d:=aa (AJ l);obtain⟨n,I,K⟩:∃n:Nat,Hid (p.id.toNat=n)/\IntKind.u64.wrap p.id=(n:Int):=⟨_,aa rfl,by rw[iZ];have:=d.o.id1;have:=d.o.id2;omega⟩;obtain⟨m,A,Q⟩:∃m:Nat,Hid (p.code.toNat=m)/\IntKind.u64.wrap p.code=(m:Int):=⟨_,aa rfl,by rw[iZ];have:=d.o.c1;have:=d.o.c2;omega⟩;have G:(eS v p !=0)=false:=by simpa using l
  have t:Hid (Ga v p=(Yk n 2++Fa p,0)):=aa (by rw[D.o,if_pos l,I.out]);clear l;go_wp2_with fail;refine Yg (pD n 2 _ (by have:=I.out;have:=d.o.id2;have:=d.o.id1;omega) (by omega) (by omega)) λS b=>?_;have g:=aa (Yf o.o b);have j:=aa (Yh q.o b)
  clear b L G K;have M:=λi=>j.o.cell i;by_cases k:p.code=0/\p.props.length=0
  ·have s:Hid (Fa p=[]):=aa (by rw[Fa,if_pos k]);have u:(p.code !=0)=false:=by simpa using k.1
   have H:((p.props.length:Int) !=0)=false:=by simpa using (show(p.props.length:Int)=0 by omega)
   clear k;go_wp2;go_ret2;exact⟨by(rw[t.o,s.o,YO];first| done| rfl),g.o⟩
  ·by_cases y:p.props.length=0
   ·have s:Hid (Fa p=Yk m 1):=aa (by rw[<-A.out,Fa,Fl k,if_pos y,YO]);have u:(p.code !=0)=true:=aA.2 λx=>k ⟨x,y⟩;have H:((p.props.length:Int) !=0)=false:=by simpa using (show(p.props.length:Int)=0 by omega)
    clear k y;go_wp2_with fail;refine Yg (pD m 1 _ (by have:=A.out;have:=d.o.c1;have:=d.o.c2;omega) (by omega) (by omega)) λO b=>?_;have f:=aa (Yf g.o b);have r:=aa (Yh j.o b)
    clear b M;have N:=λi=>r.o.cell i;have J:¬(9223372036854775807<(Yk n 2).length+(Yk m 1).length):=by rw[fM,fM];decide
    go_wp2;go_ret2;exact⟨by(rw[t.o,s.o,<-ap2];first| done| rfl),f.o⟩
   ·have s:Hid (Fa p=Yk m 1++(aM p.kind p.props).1):=aa (by rw[<-A.out,Fa,Fl k,Fl y]);have H:((p.props.length:Int) !=0)=true:=aA.2 (by omega);have u:(p.code !=0)=true\/(p.code !=0)=false:=by cases (p.code !=0)<;>simp
    clear k y;rcases u with u| u
    all_goals
     go_wp2_with fail;refine Yg (pD m 1 _ (by have:=A.out;have:=d.o.c1;have:=d.o.c2;omega) (by omega) (by omega)) λO b=>?_;have f:=aa (Yf g.o b);have r:=aa (Yh j.o b)
     clear b;have N:=λi=>r.o.cell i;have J:¬(9223372036854775807<(Yk n 2).length+(Yk m 1).length):=by rw[fM,fM];decide
     have P:¬(9223372036854775807<(Yk n 2).length+(Yk m 1).length+(aM p.kind p.props).fst.length):=by rw[fM,fM];have:=(G6 p.kind p.props d.o.bytes).2;omega
     go_wp2_with fail;refine Yg (UB p.kind p.props _ rfl B.o.props h.props.a h.props.c _ ((F.o.below f.o).wider f.o.size).props B.o.len.2.2.2) λT b=>?_;have C:=aa (Yf f.o b);clear b;go_wp2;go_ret2;exact⟨by(rw[t.o,s.o,<-ap3,<-ap2];first| done| rfl),C.o⟩
 ·have G:(eS v p !=0)=true:=aA.2 l;have t:Hid (Ga v p=([],eS v p)):=aa (by rw[D.o,Fl l]);clear l;go_wp2;go_ret2;exact⟨by rw[t.o];rfl,o.o⟩
def Gu(k i c:Int):Pk:={pk0 with kind:=k,id:=i,code:=c}
theorem PkIn.zero(w:abP)(B:Nat)(k i c:Int):PkIn w B (Gu k i c) hs0:=⟨Rd.nil _ _ _ _,Rd.nil _ _ _ _,Rd.nil _ _ _ _,Rd.nil _ _ _ _,ag _,ag _,ag _,ag _⟩
theorem PkOk.zero(k i c:Int):PkOk (Gu k i c):=by
 refine⟨?_,?_,?_,?_,?_⟩
 ·intro q a;cases a
 ·intro q a;cases a
 ·intro q a;cases a
 ·exact⟨ag _,ag _,ag _,ag _,ag _,ag _,ag _⟩
 ·exact⟨ag _,ag _,ag _,ag _⟩
theorem vL(k:Int):aM k []=([0],0):=by
 show eO k [] (λ_=>0) []=_;rfl
theorem D8(i:Int)(h:0<=i)(h2:i<256):∃a:UInt8,Yk i.toNat 1=[a]/\(a.toNat:Int)=i:=by
 refine⟨UInt8.ofNat (i.toNat/ 2^ 0),rfl,?_⟩;have b:(UInt8.ofNat (i.toNat/ 2^ 0)).toNat=i.toNat% 256:=by simp
 rw[b];omega
theorem Cn(hb:Bk w g PkT (pkC p h)):(loadVar PkT ⟨g,0,none⟩).run prog w= .ok (pkV p h) w:=by
 have a:=cf hb;unfold kZ at a;generalize pkV p h=V at a⊢
 simpa only[Instr.loadAt,Instr.sureAddr,Sem.run_bind,Sem.run_pure,ik]using a
theorem kG{A B:Type}(r:Result A)(v:A)(w:abP)(f:A->abP->Result B)(h:r= .ok v w):r.andThen f=f v w:=by rw[h];rfl
theorem aI{fn:Func}{p u:Tmp}(hr:fn.results= #[.cell p PkT,.tmp u])(tmps:Array Value){q:Pk}(hp:tmps.getD p undef= .pointer (some ⟨g,0,none⟩))(hb:Bk w g PkT (pkC q h)):
  (results fn tmps).run prog w= .ok (.tuple #[pkV q h,tmps.getD u undef]) w:=by
 rw[results_cell_tmp hr,hp];have a:=Cn hb;generalize pkV q h=V at a⊢;exact kG _ (⟨g,0,none⟩:Addr) w _ rfl |>.trans (kG _ V w _ a)
theorem YQ{B:Nat}{w':abP}(x:Below B w w')(hB:B<=w'.heap.size)(hg:B<=g)(q:Pk)(k:Hs):Below B w (dE w' g q k):=x.grown (cJ w' g q k) hB (λy a=>by cases a;exact hg)
theorem vj(x y:Wl)(hx hy:Hd)(w:abP)(rx:Rd w w.heap.size 4 hx.a x.props.length (prs x.props))(ry:Rd w w.heap.size 4 hy.a y.props.length (prs y.props))(lx:x.props.length<=4611686018427387904)(ly:y.props.length<=4611686018427387904):
  abR 33 #[wlV x hx,wlV y hy] w (.bool (decide (x=y))):=by
 obtain⟨t,l,q,r,g⟩:=x;obtain⟨k,h,i,j,c⟩:=y;simp only at rx ry lx ly;simp only[wlV,wlC];have d:=aa rx;have f:=aa ry;clear rx ry
 go_enter func33,ntmps33;go_wp2_with (first| (refine(oJ _ _ _ _ _ _ g c _ rfl rfl (d.o.two _ _) (f.o.two _ _) lx ly).mono ?_;rintro e m ⟨rfl,b⟩))
 all_goals
  go_ret;refine⟨eT (by simp_all[nC,toList_inj]),?_⟩
  first| exact lN b| exact ic _ _ _
theorem ws(p q:Pk)(h k:Hs)(w:abP)(ip:PkIn w w.heap.size p h)(iq:PkIn w w.heap.size q k)(lp:gz p)(lq:gz q):
  abR 23 #[pkV p h,pkV q k] w (.bool (decide (p=q))):=by
 have G:=ic w (.cells (pkC p h) PkT) (.cells (pkC q k) PkT);have H:Bk ((w.alloc (.cells (pkC p h) PkT)).alloc (.cells (pkC q k) PkT)) w.heap.size PkT (pkC p h):=(Bk.fresh w PkT (pkC p h)).alloc _;have I:Bk ((w.alloc (.cells (pkC p h) PkT)).alloc (.cells (pkC q k) PkT)) (w.heap.size+1) PkT (pkC q k):=by
  simpa using Bk.fresh (w.alloc (.cells (pkC p h) PkT)) PkT (pkC q k)
 have d:=aa (And.intro ip (And.intro iq (And.intro lp lq)));have C:=aa G;have O:=aa H;have Q:=aa I
 have F:=aa (nQ p q);clear ip iq lp lq G;have l:=λi=>H.cell i;have m:=λi=>I.cell i;have J:=vj p.will q.will h.wp k.wp _ (d.o.1.next C.o).wp (d.o.2.1.next C.o).wp d.o.2.2.1.1 d.o.2.2.2.1;simp only[wlV,wlC]at J;clear H I;have S:=aa J;clear J
 go_enter func23,ntmps23;go_wp2_with fail;refine Yg (S.o) λT b=>?_;have f:=aa (Yf C.o b);have u:=aa (Yh O.o b);have z:=aa (Yh Q.o b)
 clear b l m;have l:=λi=>u.o.cell i;have m:=λi=>z.o.cell i;by_cases o:p.will=q.will;rotate_left
 ·have n:Hid (decide (p=q)=false):=aa (ah (λx=>o (by rw[x])));rw[ah o];clear o;go_wp2;go_ret;exact⟨by(rw[n.o];first| done| rfl),f.o⟩
 rw[au o];have K:=aa o;clear o
 go_wp2_with fail;refine Yg (zj h.codes.a k.codes.a p.codes.length q.codes.length h.codes.c k.codes.c p.codes q.codes _ (d.o.1.next f.o).codes (d.o.2.1.next f.o).codes (aC d.o.2.2.1.2.1 (by decide)) (aC d.o.2.2.2.2.1 (by decide))) λU b=>?_;have g:=aa (Yf f.o b);have v:=aa (Yh u.o b);have A:=aa (Yh z.o b)
 clear b l m;have l:=λi=>v.o.cell i;have m:=λi=>A.o.cell i;by_cases r:p.codes=q.codes;rotate_left
 ·have n:Hid (decide (p=q)=false):=aa (ah (λx=>r (by rw[x])));rw[ah r];clear r;go_wp2;go_ret;exact⟨by(rw[n.o];first| done| rfl),g.o⟩
 rw[au r];have L:=aa r;clear r
 go_wp2_with fail;refine Yg (zk h.filters.a k.filters.a p.filters.length q.filters.length h.filters.c k.filters.c p.filters q.filters _ rfl rfl (d.o.1.next g.o).filters (d.o.2.1.next g.o).filters d.o.2.2.1.2.2.1 d.o.2.2.2.2.2.1) λV b=>?_;have j:=aa (Yf g.o b);have y:=aa (Yh v.o b);have B:=aa (Yh A.o b)
 clear b l m;have l:=λi=>y.o.cell i;have m:=λi=>B.o.cell i;by_cases s:p.filters=q.filters;rotate_left
 ·have n:Hid (decide (p=q)=false):=aa (ah (λx=>s (by rw[x])));rw[ah s];clear s;go_wp2;go_ret;exact⟨by(rw[n.o];first| done| rfl),j.o⟩
 rw[au s];have M:=aa s;clear s
 go_wp2_with fail;refine Yg (oJ h.props.a k.props.a p.props.length q.props.length h.props.c k.props.c p.props q.props _ rfl rfl (d.o.1.next j.o).props (d.o.2.1.next j.o).props d.o.2.2.1.2.2.2 d.o.2.2.2.2.2.2) λW b=>?_;have D:=aa (Yf j.o b);have P:=aa (Yh y.o b);have R:=aa (Yh B.o b)
 clear b l m;have l:=λi=>P.o.cell i;have m:=λi=>R.o.cell i;by_cases t:p.props=q.props;rotate_left
 ·have n:Hid (decide (p=q)=false):=aa (ah (λx=>t (by rw[x])));rw[ah t];clear t;go_wp2;go_ret;exact⟨by(rw[n.o];first| done| rfl),D.o⟩
 rw[au t];have N:=aa t;clear t
 go_wp2
 all_goals
  go_ret;refine⟨eT ?_,D.o⟩;have K:=K.o;have L:=L.o;have M:=M.o;have N:=N.o;have F:=F.o
  clear C f g j D l m;by_cases E:p=q
  ·subst E
   simp_all
  ·rw[ah E]
   first| done| (rw[F]at E;clear F;simp_all[toList_inj])
theorem wM(w:abP)(B:Nat):PkIn w B pk0 hs0:=⟨Rd.nil _ _ _ _,Rd.nil _ _ _ _,Rd.nil _ _ _ _,Rd.nil _ _ _ _,ag _,ag _,ag _,ag _⟩
def ft(l:List Fi):Nat:=(l.map λf=>f.topic.size).sum
theorem PJ(l:List Fi)(k:Nat)(h:k<l.length):ft (l.take (k+1))=ft (l.take k)+l[k].topic.size:=by
 unfold ft;rw[fE h,Ii,List.sum_append];simp only[fI,gC,SK,Ur];omega
theorem PU:∀(l:List Fi),(∀f∈l,f.topic.size<=140737488351232)->ft l<=l.length*140737488351232
 | [],_=>by simp[ft]
 | p :: l,h=>by
   have h1:=PU l (λq a=>h q (kV _ a));have b:=h p (by simp);simp[ft]at h1⊢;omega
def szK(p:Pk):Nat:=p.topic.size+p.payload.size+p.client.size+p.user.size+p.pass.size+p.will.topic.size+p.will.payload.size
def Ie(p:Pk):Bool:=Ig p.props&&(Ig p.will.props&&(decide (p.codes.length<=60)&&(decide (p.filters.length<=60)&&decide (szK p+ft p.filters<=140000))))
theorem Mw(p:Pk)(h:Hs)(w:abP)(ip:PkIn w w.heap.size p h)(ok:PkOk p):
  abR 5 #[pkV p h] w (.bool (Ie p)):=by
 have F:=aa ip;have m:=aa ok;clear ip ok
 have z:=aa ((aq w.heap.size w).alloc (ac _) (.cells (pkC p h) PkT));have I:=aa (Bk.fresh w PkT (pkC p h));have G:Hid (Ie p=(Ig p.props&&(Ig p.will.props&&(decide (p.codes.length<=60)&&(decide (p.filters.length<=60)&&decide (szK p+ft p.filters<=140000)))))):=aa rfl;go_enter func5,ntmps5;go_wp2_with fail;refine Yg (Kq p.props h.props.a h.props.c _ ((F.o.below z.o).wider z.o.size).props m.o.len.2.2.2 (Jm m.o.props)) λY j=>?_;have d:=aa (Yf z.o j);have t:=aa (Yh I.o j)
 clear j;have W:=λi=>t.o.cell i;cases A:Ig p.props
 ·have l:Hid (Ie p=false):=aa (by rw[G.o,A];rfl);clear A;go_wp2;go_ret;exact⟨by(rw[l.o];first| done| rfl),d.o⟩
 have C:=aa (G.o.trans (by rw[A,aL]));clear A;go_wp2_with fail;refine Yg (Kq p.will.props h.wp.a h.wp.c _ ((F.o.below d.o).wider d.o.size).wp m.o.len.1 (Jm m.o.wp)) λL j=>?_;have g:=aa (Yf d.o j);have u:=aa (Yh t.o j)
 clear j W;have X:=λi=>u.o.cell i;cases v:Ig p.will.props
 ·have l:Hid (Ie p=false):=aa (by rw[C.o,v];rfl);clear v;go_wp2;go_ret;exact⟨by(rw[l.o];first| done| rfl),g.o⟩
 have D:=aa (C.o.trans (by rw[v,aL]));clear v;by_cases r:p.codes.length<=60;rotate_left
 ·have l:Hid (Ie p=false):=aa (by rw[D.o,ah r];rfl);have T:(60:Int)<(p.codes.length:Int):=by omega
  clear r;go_wp2;go_ret;exact⟨by(rw[l.o];first| done| rfl),g.o⟩
 have T:(p.codes.length:Int)<=60:=by omega
 have E:=aa (D.o.trans (by rw[au r,aL]));clear r;by_cases x:p.filters.length<=60;rotate_left
 ·have l:Hid (Ie p=false):=aa (by rw[E.o,ah x];rfl);have U:(60:Int)<(p.filters.length:Int):=by omega
  clear x;go_wp2;go_ret;exact⟨by(rw[l.o];first| done| rfl),g.o⟩
 have U:(p.filters.length:Int)<=60:=by omega
 have H:=aa (E.o.trans (by rw[au x,aL]));have M:=aa x;clear x;obtain⟨x1,x2,x3,x4,x5,x6,x7⟩:=m.o.texts;have s1:IntKind.i64.wrap ((p.topic.size:Int)+(p.payload.size:Int))=(p.topic.size:Int)+(p.payload.size:Int):=by rw[aQ];omega
 have s2:IntKind.i64.wrap ((p.topic.size:Int)+(p.payload.size:Int)+(p.client.size:Int))=(p.topic.size:Int)+(p.payload.size:Int)+(p.client.size:Int):=by rw[aQ];omega
 have s3:IntKind.i64.wrap ((p.topic.size:Int)+(p.payload.size:Int)+(p.client.size:Int)+(p.user.size:Int))=(p.topic.size:Int)+(p.payload.size:Int)+(p.client.size:Int)+(p.user.size:Int):=by rw[aQ];omega
 have s4:IntKind.i64.wrap ((p.topic.size:Int)+(p.payload.size:Int)+(p.client.size:Int)+(p.user.size:Int)+(p.pass.size:Int))=(p.topic.size:Int)+(p.payload.size:Int)+(p.client.size:Int)+(p.user.size:Int)+(p.pass.size:Int):=by rw[aQ];omega
 have s5:IntKind.i64.wrap ((p.topic.size:Int)+(p.payload.size:Int)+(p.client.size:Int)+(p.user.size:Int)+(p.pass.size:Int)+(p.will.topic.size:Int))=(p.topic.size:Int)+(p.payload.size:Int)+(p.client.size:Int)+(p.user.size:Int)+(p.pass.size:Int)+(p.will.topic.size:Int):=by rw[aQ];omega
 have s6:IntKind.i64.wrap ((p.topic.size:Int)+(p.payload.size:Int)+(p.client.size:Int)+(p.user.size:Int)+(p.pass.size:Int)+(p.will.topic.size:Int)+(p.will.payload.size:Int))=(p.topic.size:Int)+(p.payload.size:Int)+(p.client.size:Int)+(p.user.size:Int)+(p.pass.size:Int)+(p.will.topic.size:Int)+(p.will.payload.size:Int):=by rw[aQ];omega
 have N:Hid ((p.topic.size:Int)+(p.payload.size:Int)+(p.client.size:Int)+(p.user.size:Int)+(p.pass.size:Int)+(p.will.topic.size:Int)+(p.will.payload.size:Int)=((szK p:Nat):Int)):=aa (by unfold szK;omega);have K:Hid (szK p<=985162418458624):=aa (by unfold szK;omega);go_wp2
 go_loopw [3,4] (λn i wr=>∃k:Nat,k<=p.filters.length/\i= .int .i64 k/\n= .int .i64 ((szK p:Int)+(ft (p.filters.take k):Int))/\abQ L wr) (λ_ i _=>p.filters.length- (intOf i).toNat)
 case atStart=>exact⟨0,by omega,rfl,by rw[N.o];simp[ft],aq _ _⟩
 case round=>
  obtain⟨k,hk,rfl,rfl,s⟩:=hrel;have B:=aa (Yf g.o s);have J:=aa (Yh u.o s)
  clear X;have k3:=λi=>J.o.cell i;by_cases y:k<p.filters.length
  ·obtain⟨b,o,hA,j,c0,P,Q,R,S⟩:=((F.o.below B.o).filters).atF y;have v:=m.o.topics p.filters[k] (iY y);have r:=PU (p.filters.take k) (λf V=>m.o.topics f (IU V));rw[cY]at r;have Z:ft (p.filters.take k)<=8444249301073920:=by have:=M.o;omega
   have h5:=K.o;have O:=aa (PJ p.filters k y);clear r P Q R S;generalize ft (p.filters.take k)=q at*;generalize p.filters[k]=f at*;have Y:IntKind.i64.wrap ((szK p:Int)+(q:Int)+(f.topic.size:Int))=(szK p:Int)+(q:Int)+(f.topic.size:Int):=by rw[aQ];omega
   have b1:(0:Int)<=(k:Int):=by omega
   have b2:(k:Int)<(p.filters.length:Int):=by omega
   go_wp2;go_roundw
   case rel=>exact⟨k+1,by omega,by go_num,by rw[O.o];go_num,s⟩
   case measure=>simp[intOf];omega
  ·obtain rfl:k=p.filters.length:=by omega
   go_wp2;go_ret;exact⟨by rw[H.o,GK];congr 2;simp;omega,B.o⟩
end
