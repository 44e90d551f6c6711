/- Parts: MPubB, MRef, PubD. -/
import Derived.Test.YtafoknnjekegkaaGreatDoorLqG0MTai
import Derived.Deep.DeepCutAuto
set_option maxRecDepth 10000
set_option maxHeartbeats 8000000
namespace Go.Proofs.YtafoknnjekegkaaGreatDoor
open Go.RowKit Go.Proofs.Tryz
variable {s:abO}{p n b0 b1 b2 b3:Nat}{v f:Int}
theorem E8(g a:Nat)(t:abO)(e:Int)(w:abP)(h:Cur w g t a e):
  Calls prog 291 #[.pointer (some ⟨g,0,none⟩)] w λe' w'=>e'= .returned (.int .i64 a)/\w=w':=by
 obtain⟨⟨b,c,d⟩,f,f1,i⟩:=h.cells;clear h;go_enter func291,ntmps291;go_wp2;go_ret;exact⟨rfl,rfl⟩
def dJ(s:abO):abO×Nat×Int:=
 if s.size<2 then(⟨#[]⟩,0,3)else if s.size<2+br s 0 0 2 then(⟨#[]⟩,0,3)else(s.extract 2 (2+br s 0 0 2),2+br s 0 0 2,0)
def ab0(s:abO):abO×Nat×Int:=if(dJ s).2.2=0/\YF (dJ s).1=false then(⟨#[]⟩,0,6)else dJ s
theorem zp(s:abO)(w:abP)(hs:s.size<=4611686018427387904):
  abR 244 #[.string s] w (.tuple #[.string (dJ s).1,.int .i64 (dJ s).2.1,.int .i64 (dJ s).2.2]):=by
 have B:=aa hs;go_enter func244,ntmps244;go_wp2_with fail;refine(jL s _ hs).mono ?_;rintro e E ⟨rfl,a,y⟩;have o:=aa y;have u:=aa a;clear y a
 go_wp2_with fail;refine(dR w.heap.size 0 s 0 2 _ u.o (by decide)).mono ?_;rintro e F ⟨rfl,a,c⟩;have f:=aa (dw o.o c o.o.size (ac _));have p:=aa a;clear a c
 have A:br s 0 0 2<65536:=by
  unfold br;have C:=ka (ls (aH s 0 0 2).1);have d:(ls (aH s 0 0 2).1).length<=2:=by rw[aN];exact kI (by omega) 0 2 2 (by decide)
  have n:256^ (ls (aH s 0 0 2).1).length<=256^ 2:=df (by omega) d;omega
 have q:Hid (dJ s=if s.size<2 then(⟨#[]⟩,0,3)else if s.size<2+br s 0 0 2 then(⟨#[]⟩,0,3)else(s.extract 2 (2+br s 0 0 2),2+br s 0 0 2,0)):=aa rfl;have v:Hid (¬s.size<2->aH s 0 0 2=(s.extract 0 2,2,0)):=aa λh=>dZ (k:=2) (by omega);have x:Hid (s.size<2->aH s 0 0 2=(⟨#[]⟩,0,3)):=aa λh=>kH (k:=2) (by omega);generalize br s 0 0 2=m at*;have D:IntKind.i64.wrap (m:Int)=(m:Int):=by rw[aQ];omega
 by_cases d:s.size<2
 ·have l:Hid (dJ s=(⟨#[]⟩,0,3)):=aa (by rw[q.o,if_pos d]);have b:=p.o;rw[x.o d]at b;have j:=aa b;clear b d;go_wp2_with fail;refine(eo w.heap.size 0 s 3 m _ j.o).mono ?_;rintro e z ⟨rfl,a,c⟩;rw[fY (by decide)]at a⊢;have i:=aa (dw f.o c f.o.size (ac _));have g:=aa a;clear a c
  go_wp2_with fail;refine(dG w.heap.size 0 s 3 _ g.o).mono ?_;rintro e t ⟨rfl,rfl⟩;go_wp2;go_ret3;exact⟨by rw[l.o];rfl,i.o⟩
 have b:=p.o;rw[v.o d]at b;have j:=aa b;clear b;by_cases n:s.size<2+m
 ·have l:Hid (dJ s=(⟨#[]⟩,0,3)):=aa (by rw[q.o,Fl d,if_pos n]);have r:Hid (aH s 2 0 m=(⟨#[]⟩,2,3)):=aa (kH (by omega));clear d n;go_wp2_with fail;refine(eo w.heap.size 2 s 0 m _ j.o).mono ?_;rintro e z ⟨rfl,a,c⟩;rw[r.o]at a⊢;have i:=aa (dw f.o c f.o.size (ac _));have g:=aa a;clear a c
  go_wp2_with fail;refine(dG w.heap.size 2 s 3 _ g.o).mono ?_;rintro e t ⟨rfl,rfl⟩;go_wp2;go_ret3;exact⟨by rw[l.o];rfl,i.o⟩
 ·have l:Hid (dJ s=(s.extract 2 (2+m),2+m,0)):=aa (by rw[q.o,Fl d,Fl n]);have r:Hid (aH s 2 0 m=(s.extract 2 (2+m),2+m,0)):=aa (dZ (by omega));clear d n;go_wp2_with fail;refine(eo w.heap.size 2 s 0 m _ j.o).mono ?_;rintro e z ⟨rfl,a,c⟩;rw[r.o]at a⊢;have i:=aa (dw f.o c f.o.size (ac _));have g:=aa a;clear a c
  go_wp2_with fail;refine(dG w.heap.size (2+m) s 0 _ g.o).mono ?_;rintro e t ⟨rfl,rfl⟩;go_wp2_with fail;refine(E8 w.heap.size (2+m) s 0 _ g.o).mono ?_;rintro e t ⟨rfl,rfl⟩;go_wp2;go_ret3;exact⟨by rw[l.o];rfl,i.o⟩
theorem rO(s:abO)(w:abP)(hs:s.size<=4611686018427387904):
  abR 175 #[.string s] w (.tuple #[.string (ab0 s).1,.int .i64 (ab0 s).2.1,.int .i64 (ab0 s).2.2]):=by
 have c:Hid (ab0 s=if(dJ s).2.2=0/\YF (dJ s).1=false then(⟨#[]⟩,0,6)else dJ s):=aa rfl;have i:(dJ s).1.size<=4611686018427387904:=by
  unfold dJ;split
  ·exact ag _
  ·split
   ·exact ag _
   ·show(s.extract _ _).size<=_;rw[aj];omega
 go_enter func175,ntmps175;go_wp2_with fail;refine Yg (zp s _ hs) λk b=>?_;have h:=aa b;clear b hs
 generalize dJ s=R at*;obtain⟨x,n,e⟩:=R;simp only at c i⊢;by_cases d:e=0
 ·subst d;go_wp2_with fail;refine Yg (fk x _ i) λl b=>?_;have g:=aa (Yf h.o b);clear b
  cases f:YF x
  ·have a:Hid (ab0 s=(⟨#[]⟩,0,6)):=aa (by rw[c.o];simp[f]);clear f;go_wp2;go_ret3;exact⟨by rw[a.o];rfl,g.o⟩
  ·have a:Hid (ab0 s=(x,n,0)):=aa (by rw[c.o];simp[f]);clear f;go_wp2;go_ret3;exact⟨by rw[a.o];rfl,g.o⟩
 ·have j:(e==0)=false:=ar.2 d;have a:Hid (ab0 s=(x,n,e)):=aa (by rw[c.o];simp[d]);clear d;go_wp2;go_ret3;exact⟨by rw[a.o];rfl,h.o⟩
section
def eU(f:Int)(t:abO)(i:Int)(l:List Pr)(y:abO):Pk:={pk0 with kind:=3,dup:=decide (8<=f),retain:=decide (f% 2=1),qos:=f/ 2% 4,id:=i,topic:=t,payload:=y,props:=l}
def hsP(A:Option Addr)(n:Nat):Hs:={hs0 with props:=⟨A,n⟩}
theorem zl(f:Int)(t:abO)(w:abP):(qP #[(0,.int .i64 3),(1,.bool (decide (8<=f))),(3,.int .i64 (f/ 2% 4)),(2,.bool (decide (f% 2=1))),(5,.string t)]).run prog w= .ok (pkV (eU f t 0 [] ⟨#[]⟩) (hsP none 0)) w:=by kernel_rfl
theorem zr(f:Int)(t:abO)(i:Int)(l:List Pr)(y:abO):(eU f t i l y).qos=f/ 2% 4:=rfl
def iu(f:Int)(s:abO):Nat:=if f/ 2% 4≠0 then(ab0 s).2.1+2 else(ab0 s).2.1
def mm(f:Int)(s:abO):Int:=if f/ 2% 4≠0 then((YZ (ls (s.extract (ab0 s).2.1 ((ab0 s).2.1+2))):Nat):Int)else(0:Int)
def fG(v:Int)(f:Int)(s:abO):List Pr×Nat×Int:=if v=5 then aZ 3 (s.extract (iu f s) s.size)else([],0,0)
def gI(v f:Int)(s:abO):Pk:=eU f (ab0 s).1 (mm f s) (fG v f s).1 (s.extract (iu f s+(fG v f s).2.1) s.size)
def km(v f:Int)(s:abO):Pk×Int:=
 if YG v=false then(pk0,2)else if eJ v f≠0 then(pk0,7)else if(ab0 s).2.2≠0 then(pk0,(ab0 s).2.2)
 else if f/ 2% 4≠0/\s.size<(ab0 s).2.1+2 then(pk0,3)else if(fG v f s).2.2≠0 then(pk0,(fG v f s).2.2)
 else if ii v (gI v f s)≠0 then(pk0,ii v (gI v f s))else(gI v f s,0)
theorem ut:∀f:Fin 16,(bits BinOp.and IntKind.i64 (f.1:Int) 8 !=0)=decide (8<=(f.1:Int))/\bits BinOp.and IntKind.i64 ((f.1:Int) / 2) 3=(f.1:Int) / 2% 4/\(bits BinOp.and IntKind.i64 (f.1:Int) 1 !=0)=decide ((f.1:Int) % 2=1):=by decide+kernel
structure PR (w:abP) (g:Nat) (f:Int) (t:abO) (i:Int) (l:List Pr) (y:abO) (A:Option Addr) (n:Nat) (x:abP):Prop where
 kept:abQ w x
 res:Bk x w.heap.size PkT (pkC pk0 hs0)
 zero:Bk x (w.heap.size+1) PkT (pkC pk0 hs0)
 pk:Bk x g PkT (pkC (eU f t i l y) (hsP A n))
 rd:Rd x x.heap.size 4 A l.length (prs l)
 cap:l.length<=n
 base:w.heap.size+1<g
section
variable {w x y:abP} {g:Nat} {f i:Int} {t u:abO} {l:List Pr} {A:Option Addr} {n:Nat}
theorem PR.below(h:PR w g f t i l u A n x)(hb:abQ x y):PR w g f t i l u A n y:=
 ⟨Yf h.kept hb,Yh h.res hb,Yh h.zero hb,Yh h.pk hb,(h.rd.below hb).wider hb.size,h.cap,h.base⟩
theorem PR.set(h:PR w g f t i l u A n x)(k:Nat)(v:Value){i':Int}{u':abO}(he:(pkC (eU f t i l u) (hsP A n)).setIfInBounds k v=pkC (eU f t i' l u') (hsP A n)):PR w g f t i' l u' A n (x.setCell ⟨g,k,none⟩ v):=
 ⟨dw h.kept (YR x g k v) h.kept.size (by have:=h.base;omega),h.res.other (by have:=h.base;simp;omega) _,h.zero.other (by have:=h.base;simp;omega) _,h.pk.upd k v he,(h.rd.other h.pk (dY _ _) (YR x g k v) (ac _)).wider (YR x g k v).size,h.cap,h.base⟩
theorem PR.put(h:PR w g f t i l u A n x){l':List Pr}{A':Option Addr}{n':Nat}(hr:Rd x x.heap.size 4 A' l'.length (prs l'))(hn:l'.length<=n'):PR w g f t i l' u A' n' (x.setCell ⟨g,24,none⟩ (.slice A' l'.length n')):=
 ⟨dw h.kept (YR x g 24 _) h.kept.size (by have:=h.base;omega),h.res.other (by have:=h.base;simp;omega) _,h.zero.other (by have:=h.base;simp;omega) _,h.pk.upd 24 _ rfl,(hr.other h.pk (dY _ _) (YR x g 24 _) (ac _)).wider (YR x g 24 _).size,hn,h.base⟩
theorem PR.into(h:PR w g f t i l u A n x):PkIn x x.heap.size (eU f t i l u) (hsP A n):=⟨Rd.nil _ _ _ _,Rd.nil _ _ _ _,Rd.nil _ _ _ _,h.rd,ag _,ag _,ag _,h.cap⟩
theorem PR.none(h:PR w g f t i l u A n x):abQ w (dE x w.heap.size pk0 hs0)/\Bk (dE x w.heap.size pk0 hs0) w.heap.size PkT (pkC pk0 hs0):=⟨YQ h.kept h.kept.size (ac _) _ _,cO h.res _ _⟩
theorem PR.some(h:PR w g f t i l u A n x):abQ w (dE x w.heap.size (eU f t i l u) (hsP A n))/\Bk (dE x w.heap.size (eU f t i l u) (hsP A n)) w.heap.size PkT (pkC (eU f t i l u) (hsP A n))/\
  PkIn (dE x w.heap.size (eU f t i l u) (hsP A n)) (dE x w.heap.size (eU f t i l u) (hsP A n)).heap.size (eU f t i l u) (hsP A n):=
 ⟨YQ h.kept h.kept.size (ac _) _ _,cO h.res _ _,Rd.nil _ _ _ _,Rd.nil _ _ _ _,Rd.nil _ _ _ _,(h.rd.other h.res (dY _ _) (cJ _ _ _ _) (ac _)).wider (cJ _ _ _ _).size,ag _,ag _,ag _,h.cap⟩
end
attribute [local go_sem] zl zr
theorem uO(v f:Int)(s:abO)(w:abP)(hs:s.size<=140737488351232):
  Calls prog 109 #[.int .i64 v,.int .i64 f,.string s] w (mu (km v f s) w):=by
 have W:=aa hs;have Z:=aa (((aq w.heap.size w).alloc (ac _) (.cells (pkC pk0 hs0) PkT)).alloc ((aq w.heap.size w).alloc (ac _) (.cells (pkC pk0 hs0) PkT)).size (.cells (pkC pk0 hs0) PkT));have ai:=aa ((Bk.fresh w PkT (pkC pk0 hs0)).alloc (.cells (pkC pk0 hs0) PkT));have an:=aa (Bk.fresh (w.alloc (.cells (pkC pk0 hs0) PkT)) PkT (pkC pk0 hs0));rw[ey]at an;have HE:Hid (km v f s=if YG v=false then(pk0,2)else if eJ v f≠0 then(pk0,7)else if(ab0 s).2.2≠0 then(pk0,(ab0 s).2.2)
  else if f/ 2% 4≠0/\s.size<(ab0 s).2.1+2 then(pk0,3)else if(fG v f s).2.2≠0 then(pk0,(fG v f s).2.2)
  else if ii v (gI v f s)≠0 then(pk0,ii v (gI v f s))else(gI v f s,0)):=aa rfl
 have o:=cf an.o;have r:=aW ai.o;go_enter func109,ntmps109;go_wp2_with fail;refine(mZ v _).mono ?_;rintro e w1 ⟨rfl,rfl⟩;cases hk:YG v
 ·have X:Hid (km v f s=(pk0,2)):=aa (by rw[HE.o,if_pos hk]);clear hk;go_wp2;refine abZ (aI rfl _ rfl (cO ai.o _ _)) rfl ?_;exact YY X.o (YQ Z.o Z.o.size (ac _) _ _)
 have HK:=aa hk;have H:=HE.o;rw[Fl (λx=>by rw[hk]at x;cases x)]at H
 replace H:=aa H
 clear hk HE;go_wp2_with fail;refine Yg (tm v f _) λw1 c=>?_;have ab:=aa (Yf Z.o c);have ak:=aa (Yh ai.o c);have ax:=aa (Yh an.o c)
 clear c o r;have o:=cf ax.o;have r:=aW ak.o;by_cases F:eJ v f=0;rotate_left
 ·have X:Hid (km v f s=(pk0,7)):=aa (by rw[H.o,if_pos F]);have O:(eJ v f !=0)=true:=aA.2 F;clear F;go_wp2;refine abZ (aI rfl _ rfl (cO ak.o _ _)) rfl ?_;exact YY X.o (YQ ab.o ab.o.size (ac _) _ _)
 have HF:Hid (0<=f/\f<16):=aa (by
  have b:gd f=true:=by
   unfold eJ at F;rw[Fl (λx=>by rw[HK.o]at x;cases x)]at F;cases hh:gd f
   ·rw[hh,if_pos rfl]at F;exact absurd F (by decide)
   ·rfl
  have:=aR b;omega)
 have z:=H.o;rw[F,Fl (λx=>x rfl)]at z
 replace z:=aa z
 have O:(eJ v f !=0)=false:=by rw[F];rfl
 clear F H;go_wp2_with fail;refine Yg (rO s _ (by have:=W.o;omega)) λi c=>?_;have G:=aa (Yf ab.o c);have am:=aa (Yh ak.o c);have S:=aa (Yh ax.o c)
 clear c o r O;have o:=cf S.o;have r:=aW am.o;have L:Hid (gI v f s=eU f (ab0 s).1 (mm f s) (fG v f s).1 (s.extract (iu f s+(fG v f s).2.1) s.size)):=aa rfl;have ad:Hid (mm f s=if f/ 2% 4≠0 then((YZ (ls (s.extract (ab0 s).2.1 ((ab0 s).2.1+2))):Nat):Int)else(0:Int)):=aa rfl;have Q:Hid (iu f s=if f/ 2% 4≠0 then(ab0 s).2.1+2 else(ab0 s).2.1):=aa rfl;have ah:Hid (fG v f s=if v=5 then aZ 3 (s.extract (iu f s) s.size)else([],0,0)):=aa rfl;have N:Hid ((ab0 s).2.1<=s.size/\(ab0 s).1.size<=s.size):=aa (by
  unfold ab0 dJ;split
  ·exact⟨ag _,ag _⟩
  ·split
   ·exact⟨ag _,ag _⟩
   ·split
    ·exact⟨ag _,ag _⟩
    ·refine⟨by show 2+br s 0 0 2<=s.size;omega,?_⟩;show(s.extract _ _).size<=_;rw[aj];omega)
 generalize ab0 s=R at*;obtain⟨t,m,x⟩:=R;simp only at z L ad Q N⊢;by_cases D:x=0;rotate_left
 ·have X:Hid (km v f s=(pk0,x)):=aa (by rw[z.o,if_pos D]);have O:(x !=0)=true:=aA.2 D;clear D;go_wp2;refine abZ (aI rfl _ rfl (cO am.o _ _)) rfl ?_;exact YY X.o (YQ G.o G.o.size (ac _) _ _)
 subst D;have J:=z.o;rw[Fl (λx=>x rfl)]at J
 replace J:=aa J
 clear z;have aM:=ut ⟨f.toNat,by have:=HF.o;omega⟩;rw[show(((⟨f.toNat,by have:=HF.o;omega⟩:Fin 16).1:Nat):Int)=f by have:=HF.o;simp;omega]at aM;obtain⟨g1,g2,g3⟩:=aM;have P0:Hid (PR w i.heap.size f t 0 [] ⟨#[]⟩ none 0 (i.alloc (.cells (pkC (eU f t 0 [] ⟨#[]⟩) (hsP none 0)) PkT))):=aa ⟨G.o.alloc G.o.size _,am.o.alloc _,S.o.alloc _,Bk.fresh _ _ _,Rd.nil _ _ _ _,ac _,S.o.lt⟩;clear o r
 go_upto_if 50 with fail
 have d:=P0.o;have Y:(i.alloc (.cells (pkC (eU f t 0 [] ⟨#[]⟩) (hsP none 0)) PkT)).cell? ⟨i.heap.size,3,none⟩=some (.int .i64 (f/ 2% 4)):=d.pk.cell 3;by_cases K:f/ 2% 4≠0/\s.size<m+2
 ·have X:Hid (km v f s=(pk0,3)):=aa (by rw[J.o,if_pos K]);have O:(f/ 2% 4 !=0)=true:=aA.2 K.1;have bb:(s.size:Int) - (m:Int)<2:=by omega
  have hw:IntKind.i64.wrap ((s.size:Int) - (m:Int))=(s.size:Int) - (m:Int):=by rw[aQ];have:=W.o;have:=N.o;omega
  have o:=cf d.zero;have r:=aW d.res;clear Y d K g1 g2 g3;go_wp2;refine abZ (aI rfl _ rfl P0.o.none.2) rfl ?_;exact YY X.o P0.o.none.1
 have B:=J.o;rw[Fl K]at B
 replace B:=aa B
 have aL:=aa K;clear Y d K J g1 g2 g3;go_cut [10] (λa wx=>a= .int .i64 (iu f s:Nat)/\PR w i.heap.size f t (mm f s) [] ⟨#[]⟩ none 0 wx)
 case first=>
  have d:=P0.o;have Y:(i.alloc (.cells (pkC (eU f t 0 [] ⟨#[]⟩) (hsP none 0)) PkT)).cell? ⟨i.heap.size,3,none⟩=some (.int .i64 (f/ 2% 4)):=d.pk.cell 3;by_cases g:f/ 2% 4=0
  ·have O:(f/ 2% 4 !=0)=false:=by simpa using g
   have HA:Hid (iu f s=m):=aa (by rw[Q.o,Fl (λx=>x g)]);have HI:Hid (mm f s=0):=aa (by rw[ad.o,Fl (λx=>x g)]);clear g d;go_wp2;go_meet
   case rel=>exact⟨by rw[HA.o],by rw[HI.o];exact P0.o⟩
  ·have O:(f/ 2% 4 !=0)=true:=aA.2 g;have bc:m+2<=s.size:=by
    have:=aL.o;by_cases h:s.size<m+2
    ·exact absurd ⟨g,h⟩ this
    ·omega
   have HA:Hid (iu f s=m+2):=aa (by rw[Q.o,if_pos g]);have HI:Hid (mm f s=((YZ (ls (s.extract m (m+2))):Nat):Int)):=aa (by rw[ad.o,if_pos g]);have hG:YZ (ls (s.extract m (m+2)))<65536:=by
    have U:=ka (ls (s.extract m (m+2)));have b:(ls (s.extract m (m+2))).length=2:=by rw[aN,aj];omega
    rw[b]at U;exact U
   have bb:(2:Int)<=(s.size:Int) - (m:Int):=by omega
   have hw:IntKind.i64.wrap ((s.size:Int) - (m:Int))=(s.size:Int) - (m:Int):=by rw[aQ];have:=W.o;omega
   have bn:IntKind.i64.wrap ((m:Int)+2)=(m:Int)+2:=by rw[aQ];have:=W.o;omega
   have b1:(0:Int)<=(m:Int):=by omega
   have b2:(m:Int)+2<=(s.size:Int):=by omega
   have aC:(s.extract m (m+2)).size<=8:=by rw[aj];omega
   have a2:=aa aC;have HG:=aa hG;have bo:IntKind.i64.wrap ((YZ (ls (s.extract m (m+2))):Nat):Int)=((YZ (ls (s.extract m (m+2))):Nat):Int):=by rw[aQ];omega
   have k4:(i.alloc (.cells (pkC (eU f t 0 [] ⟨#[]⟩) (hsP none 0)) PkT)).cell? ⟨i.heap.size,4,none⟩=some (.int .i64 0):=d.pk.cell 4;have f4:=d.pk.free 4;clear g d bc aC hG;go_wp2_with fail;refine(jA _ _ a2.o).mono ?_;rintro e w3 ⟨rfl,rfl⟩;have k:Hid (∀I:Int,PR w i.heap.size f t I [] ⟨#[]⟩ none 0 (i.alloc (.cells ((pkC (eU f t 0 [] ⟨#[]⟩) (hsP none 0)).setIfInBounds 4 (.int .i64 I)) PkT))):=aa λI=>⟨G.o.alloc G.o.size _,am.o.alloc _,S.o.alloc _,Bk.fresh i PkT (pkC (eU f t I [] ⟨#[]⟩) (hsP none 0)),Rd.nil _ _ _ _,ac _,S.o.lt⟩;generalize YZ (ls (s.extract m (m+2)))=I at*;go_wp2;go_meet
   case rel=>exact⟨by rw[HA.o];rfl,by rw[HI.o];exact k.o _⟩
 case rest=>
  obtain⟨rfl,h⟩:=hcut;have P1:=aa h;clear h;have V:Hid (iu f s<=s.size):=aa (by
   rw[Q.o];have U:=aL.o;have b:=N.o;by_cases g:f/ 2% 4≠0
   ·rw[if_pos g];by_cases h:s.size<m+2
    ·exact absurd ⟨g,h⟩ U
    ·omega
   ·rw[Fl g];exact b.1)
  generalize iu f s=a at*;generalize mm f s=j at*;have HV:Hid (∀l n,fG v f s=(l,n,0)->((ii v (eU f t j l (s.extract (a+n) s.size))=0/\km v f s=(eU f t j l (s.extract (a+n) s.size),0))\/(ii v (eU f t j l (s.extract (a+n) s.size))≠0/\km v f s=(pk0,ii v (eU f t j l (s.extract (a+n) s.size)))))):=aa (by
   intro l n h;have b:=B.o;have h3:=L.o;rw[h]at b h3;rw[Fl (λx=>x rfl)]at b;rw[h3]at b;by_cases h4:ii v (eU f t j l (s.extract (a+n) s.size))=0
   ·exact .inl ⟨h4,by rw[b];simp[h4]⟩
   ·exact .inr ⟨h4,by rw[b];simp[h4]⟩)
  have af:Hid (∀l n,(∀p∈l,qc p)->l.length<=1000->PkOk (eU f t j l (s.extract (a+n) s.size))):=aa (by
   intro l n U b;refine⟨?_,U,?_,?_,?_⟩
   ·intro q Y;cases Y
   ·intro q Y;cases Y
   ·have:=N.o.2;have:=W.o;refine⟨by show t.size<=_;omega,?_,?_⟩
    ·show(s.extract _ _).size<=_;rw[aj];omega
    ·exact⟨ag _,ag _,ag _,ag _,ag _⟩
   ·exact⟨ag _,ag _,ag _,by show l.length<=_;omega⟩)
  clear L ad Q;by_cases h5:v=5
  ·subst h5;have HP:Hid (fG 5 f s=aZ 3 (s.extract a s.size)):=aa (by rw[ah.o,if_pos rfl]);have ba:(a:Int)<=(s.size:Int):=by have:=V.o;omega
   have g:(0:Int)<=(a:Int):=by omega
   have au:Hid (∀l n x,fG 5 f s=(l,n,x)->x≠0->km 5 f s=(pk0,x)):=aa (by
    intro l n x h D;have b:=B.o;rw[h,if_pos D]at b;exact b)
   have aP:(s.extract a s.size).size<=140737488351232:=by rw[aj];have:=W.o;omega
   have ae:Hid ((aZ 3 (s.extract a s.size)).2.2=0->a+(aZ 3 (s.extract a s.size)).2.1<=s.size):=aa (by
    intro g;have U:(aZ 3 (s.extract a s.size)).2.1<=(s.extract a s.size).size:=(fd (kind:=3) (s:=s.extract a s.size) (l:=(aZ 3 (s.extract a s.size)).1) (n:=(aZ 3 (s.extract a s.size)).2.1) (by rw[<-g])).2.2;rw[aj]at U;have:=V.o;omega)
   have aK:=aa aP;clear ah B aP;go_wp2_with fail;refine(Zf 3 (s.extract a s.size) _ aK.o).mono ?_;rintro e w4 ⟨A,cp,rfl,P,ao,c⟩;have k:=aa (P1.o.below c);have av:=aa (iT (kind:=3) aK.o);have aw:=aa (kj (kind:=3) (s:=s.extract a s.size));generalize aZ 3 (s.extract a s.size)=R at*;obtain⟨l,n,x⟩:=R;simp only at P ao ae av aw⊢;by_cases D:x=0;rotate_left
   ·have O:(x !=0)=true:=aA.2 D;have M:=aa (au.o l n x HP.o D);have o:=cf k.o.zero;have r:=aW k.o.res;clear D c P ao;go_wp2;refine abZ (aI rfl _ rfl k.o.none.2) rfl ?_;exact YY M.o k.o.none.1
   subst D;have u:=aa (k.o.put ao P);have P4:=aa (u.o.set 6 (.string (s.extract (a+n) s.size)) (i':=j) (u':=s.extract (a+n) s.size) rfl);have HW:=aa (HV.o l n HP.o);have HO:=aa (af.o l n av.o (aw.o rfl));have hw:IntKind.i64.wrap ((a:Int)+(n:Int))=(a:Int)+(n:Int):=by rw[aQ];have:=ae.o rfl;have:=W.o;omega
   have bj:(a:Int)+(n:Int)<=(s.size:Int):=by have:=ae.o rfl;omega
   have bm:(0:Int)<=(a:Int)+(n:Int):=by omega
   have be:w4.cell? ⟨i.heap.size,24,none⟩=some (.slice none 0 0):=k.o.pk.cell 24;have a3:=k.o.pk.free 24;have k6:(w4.setCell ⟨i.heap.size,24,none⟩ (.slice A l.length cp)).cell? ⟨i.heap.size,6,none⟩=some (.string ⟨#[]⟩):=u.o.pk.cell 6;have f6:=u.o.pk.free 6;have bf:w4.cell? ⟨i.heap.size,6,none⟩=some (.string ⟨#[]⟩):=k.o.pk.cell 6;have a4:=k.o.pk.free 6;have hl:=cf P4.o.pk;clear c P ao HV af au av aw HP ae;go_wp2_with fail;refine Yg (mY 5 (eU f t j l (s.extract (a+n) s.size)) _ _ P4.o.into HO.o) λw5 c=>?_;have T:=aa (P4.o.below c);clear c hl k6 f6 be a3 bf a4
   generalize s.extract (a+n) s.size=y at*;generalize ii 5 (eU f t j l y)=E at*;have hl:=cf T.o.pk;have o:=cf T.o.zero;have r:=aW T.o.res;rcases HW.o with ⟨b,C⟩ | ⟨b,C⟩
   ·subst b;have M:=aa C;clear C
    go_wp2;refine abZ (aI rfl _ rfl T.o.some.2.1) rfl ?_;exact fo M.o T.o.some.2.2 T.o.some.1
   ·have O:(E !=0)=true:=aA.2 b;have M:=aa C;clear C b
    go_wp2;refine abZ (aI rfl _ rfl T.o.none.2) rfl ?_;exact YY M.o T.o.none.1
  ·have e5:(v==5)=false:=ar.2 h5;have aO:fG v f s=([],0,0):=by rw[ah.o,Fl h5]
   have HW:=aa (HV.o [] 0 aO);rw[jV]at HW;have HO:=af.o [] 0 (by simp) (by simp);rw[jV]at HO
   replace HO:=aa HO
   have ba:(a:Int)<=(s.size:Int):=by have:=V.o;omega
   have g:(0:Int)<=(a:Int):=by omega
   have k:=aa (P1.o.set 6 (.string (s.extract a s.size)) (i':=j) (u':=s.extract a s.size) rfl);have k6:wc.cell? ⟨i.heap.size,6,none⟩=some (.string ⟨#[]⟩):=P1.o.pk.cell 6;have f6:=P1.o.pk.free 6;have hl:=cf k.o.pk;clear h5 aO ah HV af B;go_wp2_with fail;refine Yg (mY v (eU f t j [] (s.extract a s.size)) _ _ k.o.into HO.o) λw4 c=>?_;have u:=aa (k.o.below c);clear c hl k6 f6
   generalize s.extract a s.size=y at*;generalize ii v (eU f t j [] y)=E at*;have hl:=cf u.o.pk;have o:=cf u.o.zero;have r:=aW u.o.res;rcases HW.o with ⟨b,C⟩ | ⟨b,C⟩
   ·subst b;have M:=aa C;clear C
    go_wp2;refine abZ (aI rfl _ rfl u.o.some.2.1) rfl ?_;exact fo M.o u.o.some.2.2 u.o.some.1
   ·have O:(E !=0)=true:=aA.2 b;have M:=aa C;clear C b
    go_wp2;refine abZ (aI rfl _ rfl u.o.none.2) rfl ?_;exact YY M.o u.o.none.1
end
theorem oa(t r:abO):ls (cQ t++r)=Yk t.size 2++(ls t++ls r):=by
 unfold cQ;rw[fe,fe,jo,List.append_assoc]
theorem wB{t:abO}(h:ab0 s=(t,n,0)):s=cQ t++s.extract n s.size/\t.size<65536/\YF t=true/\n=2+t.size/\n<=s.size:=by
 have a:dJ s=(t,n,0)/\YF t=true:=by
  unfold ab0 at h;by_cases d:(dJ s).2.2=0/\YF (dJ s).1=false
  ·rw[if_pos d]at h;cases h
  ·rw[Fl d]at h;refine⟨h,?_⟩;cases e:YF t
   ·exact absurd ⟨by rw[h],by rw[h];exact e⟩ d
   ·rfl
 obtain⟨a,e⟩:=a;unfold dJ at a;by_cases f:s.size<2
 ·rw[if_pos f]at a;cases a
 rw[Fl f]at a;by_cases g:s.size<2+br s 0 0 2
 ·rw[if_pos g]at a;cases a
 rw[Fl g]at a;simp only[bG]at a;obtain⟨j,rfl,-⟩:=a;have b:br s 0 0 2=YZ ((ls s).take 2):=by
  unfold br;rw[show(2:Int)=((2:Nat):Int)from rfl,dZ (by omega),Ym,Yl]
 have c:((ls s).take 2).length=2:=by rw[cY,aN];omega
 have l:br s 0 0 2<65536:=by
  rw[b];have:=ka ((ls s).take 2);rw[c]at this;exact this
 have i:t.size=br s 0 0 2:=by rw[<-j,aj];omega
 refine⟨eX ?_,by omega,e,by omega,by omega⟩;rw[oa,ju,i,b,lm _ c,<-j,Ym,<-b,<-List.append_assoc];have k:List.drop (2+br s 0 0 2) (ls s)=List.drop (br s 0 0 2) (List.drop 2 (ls s)):=by rw[ab2]
 rw[k,List.append_assoc,cg,cg]
theorem Ks{p:Pk}(h:tJ p=false):gd (ke p)=true/\decide (8<=ke p)=p.dup/\ke p/ 2% 4=p.qos/\decide (ke p% 2=1)=p.retain:=by
 have a:=Gy h;unfold gd ke;obtain b| c| d:p.qos=0\/p.qos=1\/p.qos=2:=by omega
 ·rw[b]at a⊢;cases e:p.dup
  ·cases p.retain<;>decide
  ·exact absurd (.inr (.inr ⟨rfl,e⟩)) a
 ·rw[c];cases p.dup<;>cases p.retain<;>decide
 ·rw[d];cases p.dup<;>cases p.retain<;>decide
theorem BG(v:Int)(p:Pk)(y:abO):ls (ys v p++y)=(Yk p.topic.size 2++ls p.topic)++((if p.qos≠0 then Yk p.id.toNat 2 else [])++((if v=5 then(aM p.kind p.props).1 else [])++ls y)):=by
 unfold ys BH cQ;by_cases b:v=5<;>by_cases a:p.qos≠0
 ·rw[if_pos b,if_pos a,if_pos a,if_pos b];simp only[fe,jo,List.append_assoc]
 ·rw[if_pos b,Fl a,Fl a,if_pos b];simp only[fe,jo,List.append_assoc,dX]
 ·rw[Fl b,if_pos a,if_pos a,Fl b];simp only[fe,jo,List.append_assoc,dX]
 ·rw[Fl b,Fl a,Fl a,Fl b];simp only[fe,jo,List.append_assoc,dX]
theorem Ea{q:Pk}(h:km v f s=(q,0)):YG v=true/\eJ v f=0/\(ab0 s).2.2=0/\¬(f/ 2% 4≠0/\s.size<(ab0 s).2.1+2)/\(fG v f s).2.2=0/\ii v (gI v f s)=0/\q=gI v f s:=by
 unfold km at h;by_cases d:YG v=false
 ·rw[if_pos d]at h;cases h
 rw[Fl d]at h;by_cases e:eJ v f≠0
 ·rw[if_pos e]at h;cases h
 rw[Fl e]at h;by_cases a:(ab0 s).2.2≠0
 ·rw[if_pos a]at h;exact absurd (congrArg Prod.snd h) a
 rw[Fl a]at h;by_cases g:f/ 2% 4≠0/\s.size<(ab0 s).2.1+2
 ·rw[if_pos g]at h;cases h
 rw[Fl g]at h;by_cases b:(fG v f s).2.2≠0
 ·rw[if_pos b]at h;exact absurd (congrArg Prod.snd h) b
 rw[Fl b]at h;by_cases c:ii v (gI v f s)≠0
 ·rw[if_pos c]at h;exact absurd (congrArg Prod.snd h) c
 rw[Fl c]at h;exact⟨by simpa using d,aU.1 e,aU.1 a,g,aU.1 b,aU.1 c,(congrArg Prod.fst h).symm⟩
theorem wD(hk:YG v=true)(hc:eJ v f=0)(t:abO)(i:Int)(l:List Pr)(y:abO):ke (eU f t i l y)=f:=by
 have a:gd f=true:=by
  unfold eJ at hc;rw[Fl (λx=>by rw[hk]at x;cases x)]at hc;cases b:gd f
  ·rw[b,if_pos rfl]at hc;exact absurd hc (by decide)
  ·rfl
 have:=aR a;show 2*(f/ 2% 4)+(if decide (f% 2=1)=true then 1 else 0)+(if decide (8<=f)=true then 8 else 0)=f;clear a hc hk;obtain rfl| rfl| rfl| rfl| rfl| rfl| rfl| rfl| rfl| rfl:=this
 all_goals decide
theorem zy{q:Pk}(h:km v f s=(q,0)):ii v q=0/\ys v q++q.payload=s/\ke q=f:=by
 obtain⟨p,m,t,r,c,o,rfl⟩:=Ea h;refine⟨o,?_,wD p m _ _ _ _⟩;have j:ab0 s=((ab0 s).1,(ab0 s).2.1,0):=by rw[<-t]
 obtain⟨e,w,y,x,u⟩:=wB j;have d:ls s=(Yk (ab0 s).1.size 2++ls (ab0 s).1)++(ls s).drop (ab0 s).2.1:=by
  have:=congrArg ls e;rw[oa,ju,<-List.append_assoc]at this;exact this
 have g:(ls s).drop (ab0 s).2.1=(if f/ 2% 4≠0 then Yk (mm f s).toNat 2 else [])++(ls s).drop (iu f s):=by
  unfold mm iu;by_cases a:f/ 2% 4≠0
  ·rw[if_pos a,if_pos a,if_pos a,dN,Ym,lm _ (by
    rw[cY,bU,aN];have:¬s.size<(ab0 s).2.1+2:=λz=>r ⟨a,z⟩;omega),<-ab2,cg]
  ·rw[Fl a,Fl a];rfl
 have i:(ls s).drop (iu f s)=(if v=5 then(aM 3 (fG v f s).1).1 else [])++(ls s).drop (iu f s+(fG v f s).2.1):=by
  unfold fG at c⊢;by_cases b:v=5
  ·rw[if_pos b]at c⊢;rw[if_pos b];have k:=(fd (kind:=3) (s:=s.extract (iu f s) s.size) (l:=(aZ 3 (s.extract (iu f s) s.size)).1) (n:=(aZ 3 (s.extract (iu f s) s.size)).2.1) (by rw[<-c])).2.1;rw[k,ju,<-ab2,cg]
  ·rw[Fl b,Fl b];rfl
 refine eX ?_;rw[BG];show(Yk (ab0 s).1.size 2++ls (ab0 s).1)++((if f/ 2% 4≠0 then Yk (mm f s).toNat 2 else [])++((if v=5 then(aM 3 (fG v f s).1).1 else [])++ls (s.extract (iu f s+(fG v f s).2.1) s.size)))=ls s;rw[ju,<-i,<-g,<-d]
theorem Oz(s:abO)(p:Nat)(h:p<s.size):s[p]=s.get! p:=by
 simp[ByteArray.get!,getElem!_pos,h];rfl
def Kl(s:abO)(p:Nat):Bool:=decide (p<s.size/\(s.get! p).toNat/ 64=2)
def Kk(s:abO)(p:Nat):Int:=if p<s.size/\(s.get! p).toNat/ 64=2 then(((s.get! p).toNat% 64:Nat):Int)else 0
theorem G8(h:¬(p<s.size/\(s.get! p).toNat/ 64=2)):Kl s p=false/\Kk s p=0:=⟨ah h,Fl h⟩
theorem GY(h:p<s.size/\(s.get! p).toNat/ 64=2):Kl s p=true/\Kk s p=(((s.get! p).toNat% 64:Nat):Int):=⟨au h,if_pos h⟩
theorem IH(s:abO)(p:Nat)(q:Int)(hq:q=p)(w:abP)(_hp:p<=9000000000000000000):
  Calls prog 327 #[.string s,.int .i64 q] w λe w'=>
   e= .returned (.tuple #[.int .i64 (Kk s p),.bool (Kl s p)])/\w=w':=by
 subst hq;have r:(0:Int)<=(p:Int):=Int.natCast_nonneg _;by_cases h:p<s.size
 ·have t:(p:Int)<(s.size:Int):=by omega
  have j:decide ((s.size:Int)<=(p:Int))=false:=ah (by omega);have d:decide (s.size<=p)=false:=ah (by omega);have m:=Oz s p h;obtain⟨x,a⟩:∃x,s.get! p=x:=⟨_,rfl⟩;rw[a]at m;by_cases c:x.toNat<128
  ·have k:decide ((x.toNat:Int)<128)=true:=au (by omega);have b:Hid (Kl s p=false/\Kk s p=0):=aa (G8 (by rw[a];omega));clear c a;go_enter func327,ntmps327;go_wp2;go_ret2;exact⟨by rw[b.o.1,b.o.2];rfl,rfl⟩
  ·have k:decide ((x.toNat:Int)<128)=false:=ah (by omega);by_cases f:191<x.toNat
   ·have l:decide ((191:Int)<(x.toNat:Int))=true:=au (by omega);have b:Hid (Kl s p=false/\Kk s p=0):=aa (G8 (by rw[a];omega));clear c f a;go_enter func327,ntmps327;go_wp2;go_ret2;exact⟨by rw[b.o.1,b.o.2];rfl,rfl⟩
   ·have l:decide ((191:Int)<(x.toNat:Int))=false:=ah (by omega);have b:Hid (Kl s p=true/\Kk s p=((x.toNat% 64:Nat):Int)):=aa (by have:=GY (s:=s) (p:=p) (by rw[a];exact⟨h,by omega⟩);rwa[a]at this);have g:(x.toNat:Int) - 128=((x.toNat% 64:Nat):Int):=by omega
    have i:=aa g;clear g
    have n:(128:Int)<=(x.toNat:Int):=by omega
    have o:(x.toNat:Int)<=191:=by omega
    clear c f a;go_enter func327,ntmps327;go_wp2;go_ret2;exact⟨by rw[b.o.1,b.o.2,<-i.o];rfl,rfl⟩
 ·have j:decide ((s.size:Int)<=(p:Int))=true:=au (by omega);have d:decide (s.size<=p)=true:=au (by omega);have b:Hid (Kl s p=false/\Kk s p=0):=aa (G8 (by omega));clear h;go_enter func327,ntmps327;go_wp2;go_ret2;exact⟨by rw[b.o.1,b.o.2];rfl,rfl⟩
def GJ(s:abO)(at_:Nat):Nat×Nat:=if Utf8.decode s at_=(65533,1)then(0,0)else Utf8.decode s at_
theorem Hi{b2 b3:Nat}(h1:128<=b0)(h2:¬(b0/ 32=6/\1<n/\b1/ 64=2/\128<=b0% 32*64+b1% 64))
  (h3:¬(b0/ 16=14/\2<n/\b1/ 64=2/\b2/ 64=2/\2048<=b0% 16*4096+b1% 64*64+b2% 64/\(b0% 16*4096+b1% 64*64+b2% 64<55296\/57344<=b0% 16*4096+b1% 64*64+b2% 64)))
  (h4:¬(b0/ 8=30/\3<n/\b1/ 64=2/\b2/ 64=2/\b3/ 64=2/\65536<=b0% 8*262144+b1% 64*4096+b2% 64*64+b3% 64/\b0% 8*262144+b1% 64*4096+b2% 64*64+b3% 64<=1114111)):
  Lib.decodeN n b0 b1 b2 b3=(65533,1):=by
 rcases Lib.decodeN_shape n b0 b1 b2 b3 with ⟨a,_⟩ | ⟨a,b,c,d,_⟩ | ⟨a,b,c,d,f,g,_⟩ | ⟨a,b,c,d,f,g,h,_⟩ | e
 ·omega
 ·exact absurd ⟨a,b,c,d⟩ h2
 ·exact absurd ⟨a,b,c,d,f,g⟩ h3
 ·exact absurd ⟨a,b,c,d,f,g,h⟩ h4
 ·exact e
theorem PY(h1:b0/ 32=6)(h2:1<n)(h3:b1/ 64=2)(h4:128<=b0% 32*64+b1% 64):Lib.decodeN n b0 b1 b2 b3=(b0% 32*64+b1% 64,2):=by
 unfold Lib.decodeN;rw[Fl (by omega),if_pos ⟨h1,h2,h3⟩,if_pos h4]
theorem OH{b3:Nat}(h1:b0/ 16=14)(h2:2<n)(h3:b1/ 64=2)(h4:b2/ 64=2)(h5:2048<=b0% 16*4096+b1% 64*64+b2% 64)
  (h6:b0% 16*4096+b1% 64*64+b2% 64<55296\/57344<=b0% 16*4096+b1% 64*64+b2% 64):Lib.decodeN n b0 b1 b2 b3=(b0% 16*4096+b1% 64*64+b2% 64,3):=by
 unfold Lib.decodeN;rw[Fl (by omega),Fl (by omega),if_pos ⟨h1,⟨by omega,h3⟩,h2,h4⟩,if_pos ⟨h5,by omega⟩]
theorem PX(h1:b0/ 8=30)(h2:3<n)(h3:b1/ 64=2)(h4:b2/ 64=2)(h5:b3/ 64=2)(h6:65536<=b0% 8*262144+b1% 64*4096+b2% 64*64+b3% 64)
  (h7:b0% 8*262144+b1% 64*4096+b2% 64*64+b3% 64<=1114111):Lib.decodeN n b0 b1 b2 b3=(b0% 8*262144+b1% 64*4096+b2% 64*64+b3% 64,4):=by
 unfold Lib.decodeN;rw[Fl (by omega),Fl (by omega),Fl (by omega),if_pos ⟨h1,⟨by omega,h3⟩,⟨by omega,h4⟩,h2,h5⟩,if_pos ⟨h6,by omega⟩]
theorem GQ(h:Lib.decodeN (s.size- p) (s.get! p).toNat (s.get! (p+1)).toNat (s.get! (p+2)).toNat (s.get! (p+3)).toNat=(65533,1)):GJ s p=(0,0):=by
 unfold GJ;rw[Lib.decode_at,if_pos h]
theorem Jc{m k:Nat}(h:Lib.decodeN (s.size- p) (s.get! p).toNat (s.get! (p+1)).toNat (s.get! (p+2)).toNat (s.get! (p+3)).toNat=(m,k))(hm:m≠65533\/k≠1):GJ s p=(m,k):=by
 unfold GJ;rw[Lib.decode_at,Fl (by rw[h];simp;omega),h]
theorem La(s:abO)(p:Nat)(w:abP)(hp:p<s.size)(hs:s.size<=4611686018427387904):
  abT 295 #[.string s,.int .i64 p] w (.tuple #[.int .i64 (GJ s p).1,.int .i64 (GJ s p).2]):=by
 have h0:(0:Int)<=(p:Int):=Int.natCast_nonneg _;have hi:(p:Int)<(s.size:Int):=by omega
 have hx:=Oz s p hp;obtain⟨x,ak⟩:∃x,s.get! p=x:=⟨_,rfl⟩;rw[ak]at hx;have a:=aa ak;have j:=aa (And.intro hp hs)
 have J:=UInt8.toNat_lt x;have aE:(x.toNat:Int)<=255:=by omega
 have aJ:(p:Int)<4611686018427387904:=by omega
 clear ak hs;by_cases g1:x.toNat<128
 ·have n:Hid (GJ s p=(x.toNat,1)):=aa (Jc (by rw[a.o];unfold Lib.decodeN;rw[if_pos g1]) (.inl (by omega)));have e1:decide ((x.toNat:Int)<128)=true:=au (by omega);clear g1 J;go_enter func295,ntmps295;go_wp2;go_ret2;exact⟨by rw[n.o];rfl,rfl⟩
 focus
  have e1:decide ((x.toNat:Int)<128)=false:=ah (by omega);obtain R| R| R| R| R:x.toNat<192\/(192<=x.toNat/\x.toNat<224)\/(224<=x.toNat/\x.toNat<240)\/(240<=x.toNat/\x.toNat<248)\/248<=x.toNat:=by omega
  ·have a1:decide ((192:Int)<=(x.toNat:Int))=false:=ah (by omega);have a2:decide ((x.toNat:Int)<224)=true:=au (by omega);have a3:decide ((224:Int)<=(x.toNat:Int))=false:=ah (by omega);have a4:decide ((x.toNat:Int)<240)=true:=au (by omega);have a5:decide ((240:Int)<=(x.toNat:Int))=false:=ah (by omega);have a6:decide ((x.toNat:Int)<248)=true:=au (by omega);have n:Hid (GJ s p=(0,0)):=aa (GQ (Hi (by rw[a.o];omega) (by rw[a.o];omega) (by rw[a.o];omega) (by rw[a.o];omega)));clear g1 R J;go_enter func295,ntmps295;go_wp2;go_ret2;exact⟨by rw[n.o];rfl,rfl⟩
  focus
   have a1:decide ((192:Int)<=(x.toNat:Int))=true:=au (by omega);have a2:decide ((x.toNat:Int)<224)=true:=au (by omega);have a3:decide ((224:Int)<=(x.toNat:Int))=false:=ah (by omega);have a4:decide ((x.toNat:Int)<240)=true:=au (by omega);have a5:decide ((240:Int)<=(x.toNat:Int))=false:=ah (by omega);have a6:decide ((x.toNat:Int)<248)=true:=au (by omega);have hm:(x.toNat:Int) - 192=((x.toNat% 32:Nat):Int):=by omega
   have S:((x.toNat% 32:Nat):Int)<=31:=by omega
   have m:Hid (x.toNat/ 32=6):=aa (by omega);obtain⟨I,E⟩:∃I,x.toNat% 32=I:=⟨_,rfl⟩;rw[E]at hm S;have f:=aa E;clear E g1 R J;go_enter func295,ntmps295;go_wp2;refine wp_loop_rounds 2 ?_;rw[GD];go_wp2_with fail;refine(IH s (p+1) _ (by simp) _ (by have:=j.o;omega)).mono ?_;rintro e w1 ⟨rfl,rfl⟩;by_cases C:p+1<s.size/\(s.get! (p+1)).toNat/ 64=2
   ·rw[(GY C).1,(GY C).2];have o:=aa C;clear C
    obtain⟨O,D⟩:∃l,(s.get! (p+1)).toNat% 64=l:=⟨_,rfl⟩;rw[D];have aw:(O:Int)<=63:=by omega
    have g:=aa D;clear D
    obtain⟨z,T⟩:∃q:Nat,64*(I:Int)+(O:Int)=(q:Int):=⟨64*I+O,by omega⟩;have ax:(z:Int)<=2047:=by omega
    have h:=aa T;go_wp2;by_cases P:z<128
    ·have U:decide ((z:Int)<128)=true:=au (by omega);have n:Hid (GJ s p=(0,0)):=aa (GQ (Hi (by rw[a.o];omega) (by rw[a.o];have r:=m.o;have c:=f.o;have b:=j.o;have v:=o.o;have i:=g.o;have d:=h.o;omega) (by rw[a.o];have r:=m.o;have c:=f.o;have b:=j.o;have v:=o.o;have i:=g.o;have d:=h.o;omega) (by rw[a.o];have r:=m.o;have c:=f.o;have b:=j.o;have v:=o.o;have i:=g.o;have d:=h.o;omega)));clear P;rw[GD];go_wp2;go_ret2;exact⟨by rw[n.o];rfl,rfl⟩
    ·have U:decide ((z:Int)<128)=false:=ah (by omega);by_cases Y:1114111<z
     ·have V:decide ((1114111:Int)<(z:Int))=true:=au (by omega);omega
     ·have V:decide ((1114111:Int)<(z:Int))=false:=ah (by omega);by_cases z3:55296<=z
      ·have W:decide ((55296:Int)<=(z:Int))=true:=au (by omega);by_cases z4:z<=57343
       ·have X:decide ((z:Int)<=57343)=true:=au (by omega);omega
       ·have X:decide ((z:Int)<=57343)=false:=ah (by omega);omega
      ·have W:decide ((55296:Int)<=(z:Int))=false:=ah (by omega);have n:Hid (GJ s p=(z,2)):=aa (Jc (by have r:=m.o;have c:=f.o;have b:=j.o;have v:=o.o;have i:=g.o;have d:=h.o;replace c:=c;rw[show z=x.toNat% 32*64+(s.get! (p+1)).toNat% 64 by omega];rw[a.o];exact PY (by omega) (by omega) (by omega) (by omega)) (.inr (by omega)));clear P Y z3;rw[GD];go_wp2;go_ret2;exact⟨by rw[n.o];rfl,rfl⟩
   rotate_left
  rotate_left
  focus
   have a1:decide ((192:Int)<=(x.toNat:Int))=true:=au (by omega);have a2:decide ((x.toNat:Int)<224)=false:=ah (by omega);have a3:decide ((224:Int)<=(x.toNat:Int))=true:=au (by omega);have a4:decide ((x.toNat:Int)<240)=true:=au (by omega);have a5:decide ((240:Int)<=(x.toNat:Int))=false:=ah (by omega);have a6:decide ((x.toNat:Int)<248)=true:=au (by omega);have hm:(x.toNat:Int) - 224=((x.toNat% 16:Nat):Int):=by omega
   have S:((x.toNat% 16:Nat):Int)<=15:=by omega
   have m:Hid (x.toNat/ 16=14):=aa (by omega);obtain⟨I,E⟩:∃I,x.toNat% 16=I:=⟨_,rfl⟩;rw[E]at hm S;have f:=aa E;clear E g1 R J;go_enter func295,ntmps295;go_wp2;refine wp_loop_rounds 3 ?_;rw[GD];go_wp2_with fail;refine(IH s (p+1) _ (by simp) _ (by have:=j.o;omega)).mono ?_;rintro e w1 ⟨rfl,rfl⟩;by_cases C:p+1<s.size/\(s.get! (p+1)).toNat/ 64=2
   ·rw[(GY C).1,(GY C).2];have o:=aa C;clear C
    obtain⟨O,D⟩:∃l,(s.get! (p+1)).toNat% 64=l:=⟨_,rfl⟩;rw[D];have aw:(O:Int)<=63:=by omega
    have g:=aa D;clear D
    obtain⟨z,T⟩:∃q:Nat,64*(I:Int)+(O:Int)=(q:Int):=⟨64*I+O,by omega⟩;have ax:(z:Int)<=1023:=by omega
    have h:=aa T;go_wp2;rw[GD];go_wp2_with fail;refine(IH s (p+2) _ (by simp) _ (by have:=j.o;omega)).mono ?_;rintro e w2 ⟨rfl,rfl⟩;by_cases G:p+2<s.size/\(s.get! (p+2)).toNat/ 64=2
    ·rw[(GY G).1,(GY G).2];have B:=aa G;clear G
     obtain⟨l2,N⟩:∃l,(s.get! (p+2)).toNat% 64=l:=⟨_,rfl⟩;rw[N];have az:(l2:Int)<=63:=by omega
     have t:=aa N;clear N
     obtain⟨A,aj⟩:∃q:Nat,64*(z:Int)+(l2:Int)=(q:Int):=⟨64*z+l2,by omega⟩;have aA:(A:Int)<=65535:=by omega
     have u:=aa aj;go_wp2;by_cases P:A<2048
     ·have U:decide ((A:Int)<2048)=true:=au (by omega);have n:Hid (GJ s p=(0,0)):=aa (GQ (Hi (by rw[a.o];omega) (by rw[a.o];have r:=m.o;have c:=f.o;have b:=j.o;have v:=o.o;have i:=g.o;have d:=h.o;have F:=B.o;have y:=t.o;have k:=u.o;omega) (by rw[a.o];have r:=m.o;have c:=f.o;have b:=j.o;have v:=o.o;have i:=g.o;have d:=h.o;have F:=B.o;have y:=t.o;have k:=u.o;omega) (by rw[a.o];have r:=m.o;have c:=f.o;have b:=j.o;have v:=o.o;have i:=g.o;have d:=h.o;have F:=B.o;have y:=t.o;have k:=u.o;omega)));clear P;rw[GD];go_wp2;go_ret2;exact⟨by rw[n.o];rfl,rfl⟩
     ·have U:decide ((A:Int)<2048)=false:=ah (by omega);by_cases Y:1114111<A
      ·have V:decide ((1114111:Int)<(A:Int))=true:=au (by omega);omega
      ·have V:decide ((1114111:Int)<(A:Int))=false:=ah (by omega);by_cases z3:55296<=A
       ·have W:decide ((55296:Int)<=(A:Int))=true:=au (by omega);by_cases z4:A<=57343
        ·have X:decide ((A:Int)<=57343)=true:=au (by omega);have n:Hid (GJ s p=(0,0)):=aa (GQ (Hi (by rw[a.o];omega) (by rw[a.o];have r:=m.o;have c:=f.o;have b:=j.o;have v:=o.o;have i:=g.o;have d:=h.o;have F:=B.o;have y:=t.o;have k:=u.o;omega) (by rw[a.o];have r:=m.o;have c:=f.o;have b:=j.o;have v:=o.o;have i:=g.o;have d:=h.o;have F:=B.o;have y:=t.o;have k:=u.o;omega) (by rw[a.o];have r:=m.o;have c:=f.o;have b:=j.o;have v:=o.o;have i:=g.o;have d:=h.o;have F:=B.o;have y:=t.o;have k:=u.o;omega)));clear P Y z3 z4;rw[GD];go_wp2;go_ret2;exact⟨by rw[n.o];rfl,rfl⟩
        ·have X:decide ((A:Int)<=57343)=false:=ah (by omega);have n:Hid (GJ s p=(A,3)):=aa (Jc (by have r:=m.o;have c:=f.o;have b:=j.o;have v:=o.o;have i:=g.o;have d:=h.o;have F:=B.o;have y:=t.o;have k:=u.o;replace c:=c;rw[show A=x.toNat% 16*4096+(s.get! (p+1)).toNat% 64*64+(s.get! (p+2)).toNat% 64 by omega];rw[a.o];exact OH (by omega) (by omega) (by omega) (by omega) (by omega) (by omega)) (.inr (by omega)));clear P Y z3 z4;rw[GD];go_wp2;go_ret2;exact⟨by rw[n.o];rfl,rfl⟩
       ·have W:decide ((55296:Int)<=(A:Int))=false:=ah (by omega);have n:Hid (GJ s p=(A,3)):=aa (Jc (by have r:=m.o;have c:=f.o;have b:=j.o;have v:=o.o;have i:=g.o;have d:=h.o;have F:=B.o;have y:=t.o;have k:=u.o;replace c:=c;rw[show A=x.toNat% 16*4096+(s.get! (p+1)).toNat% 64*64+(s.get! (p+2)).toNat% 64 by omega];rw[a.o];exact OH (by omega) (by omega) (by omega) (by omega) (by omega) (by omega)) (.inr (by omega)));clear P Y z3;rw[GD];go_wp2;go_ret2;exact⟨by rw[n.o];rfl,rfl⟩
    ·rw[(G8 G).1,(G8 G).2];have n:Hid (GJ s p=(0,0)):=aa (GQ (Hi (by rw[a.o];omega) (by rw[a.o];have r:=m.o;have c:=f.o;have b:=j.o;have v:=o.o;have i:=g.o;have d:=h.o;omega) (by rw[a.o];have r:=m.o;have c:=f.o;have b:=j.o;have v:=o.o;have i:=g.o;have d:=h.o;omega) (by rw[a.o];have r:=m.o;have c:=f.o;have b:=j.o;have v:=o.o;have i:=g.o;have d:=h.o;omega)));clear G;go_wp2;go_ret2;exact⟨by rw[n.o];rfl,rfl⟩
   rotate_left
  rotate_left
  focus
   have a1:decide ((192:Int)<=(x.toNat:Int))=true:=au (by omega);have a2:decide ((x.toNat:Int)<224)=false:=ah (by omega);have a3:decide ((224:Int)<=(x.toNat:Int))=true:=au (by omega);have a4:decide ((x.toNat:Int)<240)=false:=ah (by omega);have a5:decide ((240:Int)<=(x.toNat:Int))=true:=au (by omega);have a6:decide ((x.toNat:Int)<248)=true:=au (by omega);have hm:(x.toNat:Int) - 240=((x.toNat% 8:Nat):Int):=by omega
   have S:((x.toNat% 8:Nat):Int)<=7:=by omega
   have m:Hid (x.toNat/ 8=30):=aa (by omega);obtain⟨I,E⟩:∃I,x.toNat% 8=I:=⟨_,rfl⟩;rw[E]at hm S;have f:=aa E;clear E g1 R J;go_enter func295,ntmps295;go_wp2;refine wp_loop_rounds 4 ?_;rw[GD];go_wp2_with fail;refine(IH s (p+1) _ (by simp) _ (by have:=j.o;omega)).mono ?_;rintro e w1 ⟨rfl,rfl⟩;by_cases C:p+1<s.size/\(s.get! (p+1)).toNat/ 64=2
   ·rw[(GY C).1,(GY C).2];have o:=aa C;clear C
    obtain⟨O,D⟩:∃l,(s.get! (p+1)).toNat% 64=l:=⟨_,rfl⟩;rw[D];have aw:(O:Int)<=63:=by omega
    have g:=aa D;clear D
    obtain⟨z,T⟩:∃q:Nat,64*(I:Int)+(O:Int)=(q:Int):=⟨64*I+O,by omega⟩;have ax:(z:Int)<=511:=by omega
    have h:=aa T;go_wp2;rw[GD];go_wp2_with fail;refine(IH s (p+2) _ (by simp) _ (by have:=j.o;omega)).mono ?_;rintro e w2 ⟨rfl,rfl⟩;by_cases G:p+2<s.size/\(s.get! (p+2)).toNat/ 64=2
    ·rw[(GY G).1,(GY G).2];have B:=aa G;clear G
     obtain⟨l2,N⟩:∃l,(s.get! (p+2)).toNat% 64=l:=⟨_,rfl⟩;rw[N];have az:(l2:Int)<=63:=by omega
     have t:=aa N;clear N
     obtain⟨A,aj⟩:∃q:Nat,64*(z:Int)+(l2:Int)=(q:Int):=⟨64*z+l2,by omega⟩;have aA:(A:Int)<=32767:=by omega
     have u:=aa aj;go_wp2;rw[GD];go_wp2_with fail;refine(IH s (p+3) _ (by simp) _ (by have:=j.o;omega)).mono ?_;rintro e w3 ⟨rfl,rfl⟩;by_cases c3:p+3<s.size/\(s.get! (p+3)).toNat/ 64=2
     ·rw[(GY c3).1,(GY c3).2];have Z:=aa c3;clear c3
      obtain⟨l3,ag⟩:∃l,(s.get! (p+3)).toNat% 64=l:=⟨_,rfl⟩;rw[ag];have aH:(l3:Int)<=63:=by omega
      have L:=aa ag;clear ag
      obtain⟨H,aB⟩:∃q:Nat,64*(A:Int)+(l3:Int)=(q:Int):=⟨64*A+l3,by omega⟩;have aI:(H:Int)<=2097151:=by omega
      have M:=aa aB;go_wp2;by_cases P:H<65536
      ·have U:decide ((H:Int)<65536)=true:=au (by omega);have n:Hid (GJ s p=(0,0)):=aa (GQ (Hi (by rw[a.o];omega) (by rw[a.o];have r:=m.o;have c:=f.o;have b:=j.o;have v:=o.o;have i:=g.o;have d:=h.o;have F:=B.o;have y:=t.o;have k:=u.o;have k3:=Z.o;have Q:=L.o;have K:=M.o;omega) (by rw[a.o];have r:=m.o;have c:=f.o;have b:=j.o;have v:=o.o;have i:=g.o;have d:=h.o;have F:=B.o;have y:=t.o;have k:=u.o;have k3:=Z.o;have Q:=L.o;have K:=M.o;omega) (by rw[a.o];have r:=m.o;have c:=f.o;have b:=j.o;have v:=o.o;have i:=g.o;have d:=h.o;have F:=B.o;have y:=t.o;have k:=u.o;have k3:=Z.o;have Q:=L.o;have K:=M.o;omega)));clear P;rw[GD];go_wp2;go_ret2;exact⟨by rw[n.o];rfl,rfl⟩
      ·have U:decide ((H:Int)<65536)=false:=ah (by omega);by_cases Y:1114111<H
       ·have V:decide ((1114111:Int)<(H:Int))=true:=au (by omega);have n:Hid (GJ s p=(0,0)):=aa (GQ (Hi (by rw[a.o];omega) (by rw[a.o];have r:=m.o;have c:=f.o;have b:=j.o;have v:=o.o;have i:=g.o;have d:=h.o;have F:=B.o;have y:=t.o;have k:=u.o;have k3:=Z.o;have Q:=L.o;have K:=M.o;omega) (by rw[a.o];have r:=m.o;have c:=f.o;have b:=j.o;have v:=o.o;have i:=g.o;have d:=h.o;have F:=B.o;have y:=t.o;have k:=u.o;have k3:=Z.o;have Q:=L.o;have K:=M.o;omega) (by rw[a.o];have r:=m.o;have c:=f.o;have b:=j.o;have v:=o.o;have i:=g.o;have d:=h.o;have F:=B.o;have y:=t.o;have k:=u.o;have k3:=Z.o;have Q:=L.o;have K:=M.o;omega)));clear P Y;rw[GD];go_wp2;go_ret2;exact⟨by rw[n.o];rfl,rfl⟩
       ·have V:decide ((1114111:Int)<(H:Int))=false:=ah (by omega);by_cases z3:55296<=H
        ·have W:decide ((55296:Int)<=(H:Int))=true:=au (by omega);by_cases z4:H<=57343
         ·have X:decide ((H:Int)<=57343)=true:=au (by omega);omega
         ·have X:decide ((H:Int)<=57343)=false:=ah (by omega);have n:Hid (GJ s p=(H,4)):=aa (Jc (by have r:=m.o;have c:=f.o;have b:=j.o;have v:=o.o;have i:=g.o;have d:=h.o;have F:=B.o;have y:=t.o;have k:=u.o;have k3:=Z.o;have Q:=L.o;have K:=M.o;replace c:=c;rw[show H=x.toNat% 8*262144+(s.get! (p+1)).toNat% 64*4096+(s.get! (p+2)).toNat% 64*64+(s.get! (p+3)).toNat% 64 by omega];rw[a.o];exact PX (by omega) (by omega) (by omega) (by omega) (by omega) (by omega) (by omega)) (.inr (by omega)));clear P Y z3 z4;rw[GD];go_wp2;go_ret2;exact⟨by rw[n.o];rfl,rfl⟩
        ·have W:decide ((55296:Int)<=(H:Int))=false:=ah (by omega);omega
     ·rw[(G8 c3).1,(G8 c3).2];have n:Hid (GJ s p=(0,0)):=aa (GQ (Hi (by rw[a.o];omega) (by rw[a.o];have r:=m.o;have c:=f.o;have b:=j.o;have v:=o.o;have i:=g.o;have d:=h.o;have F:=B.o;have y:=t.o;have k:=u.o;omega) (by rw[a.o];have r:=m.o;have c:=f.o;have b:=j.o;have v:=o.o;have i:=g.o;have d:=h.o;have F:=B.o;have y:=t.o;have k:=u.o;omega) (by rw[a.o];have r:=m.o;have c:=f.o;have b:=j.o;have v:=o.o;have i:=g.o;have d:=h.o;have F:=B.o;have y:=t.o;have k:=u.o;omega)));clear c3;go_wp2;go_ret2;exact⟨by rw[n.o];rfl,rfl⟩
    ·rw[(G8 G).1,(G8 G).2];have n:Hid (GJ s p=(0,0)):=aa (GQ (Hi (by rw[a.o];omega) (by rw[a.o];have r:=m.o;have c:=f.o;have b:=j.o;have v:=o.o;have i:=g.o;have d:=h.o;omega) (by rw[a.o];have r:=m.o;have c:=f.o;have b:=j.o;have v:=o.o;have i:=g.o;have d:=h.o;omega) (by rw[a.o];have r:=m.o;have c:=f.o;have b:=j.o;have v:=o.o;have i:=g.o;have d:=h.o;omega)));clear G;go_wp2;go_ret2;exact⟨by rw[n.o];rfl,rfl⟩
   rotate_left
  rotate_left
  ·have a1:decide ((192:Int)<=(x.toNat:Int))=true:=au (by omega);have a2:decide ((x.toNat:Int)<224)=false:=ah (by omega);have a3:decide ((224:Int)<=(x.toNat:Int))=true:=au (by omega);have a4:decide ((x.toNat:Int)<240)=false:=ah (by omega);have a5:decide ((240:Int)<=(x.toNat:Int))=true:=au (by omega);have a6:decide ((x.toNat:Int)<248)=false:=ah (by omega);have n:Hid (GJ s p=(0,0)):=aa (GQ (Hi (by rw[a.o];omega) (by rw[a.o];omega) (by rw[a.o];omega) (by rw[a.o];omega)));clear g1 R J;go_enter func295,ntmps295;go_wp2;go_ret2;exact⟨by rw[n.o];rfl,rfl⟩
 rotate_left 3
 all_goals
  rw[(G8 C).1,(G8 C).2];have n:Hid (GJ s p=(0,0)):=aa (GQ (Hi (by rw[a.o];omega) (by rw[a.o];have r:=m.o;have c:=f.o;have b:=j.o;omega) (by rw[a.o];have r:=m.o;have c:=f.o;have b:=j.o;omega) (by rw[a.o];have r:=m.o;have c:=f.o;have b:=j.o;omega)));clear C;go_wp2;go_ret2;exact⟨by rw[n.o];rfl,rfl⟩
theorem Mo(h:(Utf8.decode s p).1=0\/((Utf8.decode s p).1=65533/\(Utf8.decode s p).2=1)):(GJ s p).1=0:=by
 unfold GJ;split
 ·rfl
 ·rename_i c;rcases h with h| ⟨a,b⟩
  ·exact h
  ·exact absurd (Prod.ext a b) c
theorem Mp(h:¬((Utf8.decode s p).1=0\/((Utf8.decode s p).1=65533/\(Utf8.decode s p).2=1))):GJ s p=Utf8.decode s p:=by
 unfold GJ;rw[Fl];intro e;rw[e]at h;exact h (.inr ⟨rfl,rfl⟩)
theorem LN(s:abO)(w:abP)(hs:s.size<=4611686018427387904):
  abT 253 #[.string s] w (.int .i64 (tI s)):=by
 have q:=aa hs;go_enter func253,ntmps253;go_wp2
 go_loopw [3,4,5] (λa _ _ wr=>∃(b f:Nat),a= .int .i64 b/\b<=s.size/\s.size<=b+f/\tI s=xD f s b/\w=wr) (λa _ _ _=>s.size- (intOf a).toNat)
 case atStart=>exact⟨0,s.size,rfl,by omega,by omega,rfl,rfl⟩
 case round=>
  obtain⟨b,f,rfl,v,n,x,rfl⟩:=hrel;have l:=aa x;clear x
  by_cases k:b<s.size
  ·obtain⟨f,rfl⟩:∃f',f=f'+1:=⟨f- 1,by omega⟩;have B:(b:Int)<(s.size:Int):=by omega
   have o:=Lib.decode_width_pos s b k;have p:b+(Utf8.decode s b).2<=s.size:=by rw[Lib.decode_at];have:=xq (s.size- b) (s.get! b).toNat (s.get! (b+1)).toNat (s.get! (b+2)).toNat (s.get! (b+3)).toNat (by omega);omega
   have d:=aa (And.intro k (And.intro o (And.intro p n)));have m:Hid (tI s=if(Utf8.decode s b).1=0\/((Utf8.decode s b).1=65533/\(Utf8.decode s b).2=1)then(b:Int)else xD f s (b+(Utf8.decode s b).2)):=aa (by rw[l.o,xD,if_pos k]);clear v n l k o p;by_cases g:(Utf8.decode s b).1=0\/((Utf8.decode s b).1=65533/\(Utf8.decode s b).2=1)
   ·have i:Hid (tI s=b):=aa (by rw[m.out,if_pos g]);have A:=aa (Mo g);clear g m
    go_wp2_with fail;refine(La s b _ d.o.1 q.o).mono ?_;rintro e C ⟨rfl,rfl⟩;rw[A.o];cases D:((GJ s b).2:Int)==0
    ·go_wp2;go_ret;exact⟨by rw[i.o];rfl,rfl⟩
    ·go_wp2;go_ret;exact⟨by rw[i.o];rfl,rfl⟩
   ·have i:Hid (tI s=xD f s (b+(Utf8.decode s b).2)):=aa (by rw[m.out,Fl g]);have y:=aa (Mp g);have u:Hid ((Utf8.decode s b).1≠0):=aa λe=>g (.inl e);clear g m;go_wp2_with fail;refine(La s b _ d.o.1 q.o).mono ?_;rintro e C ⟨rfl,rfl⟩;rw[y.o];obtain⟨c,r⟩:∃c,(Utf8.decode s b).1=c:=⟨_,rfl⟩;obtain⟨h,t⟩:∃h,(Utf8.decode s b).2=h:=⟨_,rfl⟩;rw[r,t];rw[r]at u;rw[t]at i d;have E:((h:Int)==0)=false:=ar.2 (by have:=d.o;omega);have F:((c:Int)==0)=false:=ar.2 (by have:=u.o;omega);have G:(b:Int)+(h:Int)<=4611686018427387904:=by have:=d.o;have:=q.o;omega
    have H:(0:Int)<=(b:Int)+(h:Int):=by omega
    clear r t hs;go_wp2;go_roundw
    case rel=>exact⟨b+h,f,by simp,by have:=d.o;omega,by have:=d.o;omega,i.o,by first| trivial| rfl⟩
    case measure=>have:=d.o;simp[intOf];omega
  ·have j:tI s= -1:=by
    rw[l.o];cases f with
    | zero=>rfl
    | succ f=>rw[xD,Fl k]
   have z:=aa j;clear j l
   have B:¬((b:Int)<(s.size:Int)):=by omega
   go_wp2;go_ret;exact⟨by rw[z.o];rfl,rfl⟩
theorem MT(s:abO):∀(f pos:Nat),-1<=xD f s pos
 | 0,_=>by simp[xD]
 | f+1,pos=>by
   rw[xD];split
   ·split
    ·omega
    ·exact MT s f _
   ·omega
theorem xj(s:abO)(w:abP)(hs:s.size<=4611686018427387904):
  abT 185 #[.string s] w (.bool (YF s)):=by
 by_cases h:s.size<=65535
 ·have f:decide ((s.size:Int)<=65535)=true:=au (by omega);have b: -1<=tI s:=MT s _ _;have a:Hid (YF s=decide (tI s<0)):=aa (by
   unfold YF;rw[au h,aL,eG];simp;omega)
  have d:=aa hs;clear h b hs;go_enter func185,ntmps185;go_wp2_with fail;refine(LN s _ d.o).mono ?_;rintro e g ⟨rfl,rfl⟩;cases c:decide (tI s<0)
  ·rw[c]at a;go_wp2;go_ret;exact⟨by rw[a.o];rfl,rfl⟩
  ·rw[c]at a;go_wp2;go_ret;exact⟨by rw[a.o];rfl,rfl⟩
 ·have f:decide ((s.size:Int)<=65535)=false:=ah (by omega);have a:Hid (YF s=false):=aa (by simp[YF,h]);clear h;go_enter func185,ntmps185;go_wp2;go_ret;exact⟨by rw[a.o];rfl,rfl⟩
section
def Hh(l:List UInt8)(c:UInt8):Bool:=l.contains c
theorem Ji(b:UInt8)(l:List UInt8)(c:UInt8):Hh (b :: l) c=(c==b || Hh l c):=List.contains_cons
theorem Qn{a b:UInt8}(h:a≠b):(a.toNat:Int)≠(b.toNat:Int):=λx=>h (UInt8.toNat_inj.1 (by omega))
theorem Iv(s:abO)(c:UInt8)(w:abP)(hs:s.size<=4611686018427387904):
  abT 254 #[.string s,.int .u8 (c.toNat:Int)] w (.bool (Hh (ls s) c)):=by
 have m:=aa hs;clear hs
 go_enter func254,ntmps254;go_wp2
 go_loop [5] (λi=>∃k:Nat,k<=s.size/\i= .int .i64 k/\Hh (ls s) c=Hh ((ls s).drop k) c) (λi=>s.size- (intOf i).toNat)
 case atStart=>exact⟨0,by omega,rfl,rfl⟩
 case round=>
  obtain⟨k,q,rfl,l⟩:=hrel;have g:=aa l;clear l
  by_cases a:k<s.size
  ·have f:=bQ (show k<(ls s).length by rw[aN];exact a);rw[uY s k a]at f;obtain⟨b,o⟩:∃b,s[k]'a=b:=⟨_,rfl⟩;rw[o]at f;have j:=aa f;clear f
   have b1:(0:Int)<=(k:Int):=by omega
   have b2:(k:Int)<(s.size:Int):=by omega
   have p:=m.o;by_cases h:b=c
   ·have n:((b.toNat:Int)==(c.toNat:Int))=true:=aK.2 (by rw[h]);have d:Hid (Hh (ls s) c=true):=aa (by rw[g.o,j.o,h,Ji,beq_self_eq_true,Bool.true_or]);clear h;go_wp2;go_ret;exact⟨by rw[d.o];rfl,rfl⟩
   ·have n:((b.toNat:Int)==(c.toNat:Int))=false:=ar.2 (Qn h);have d:Hid (Hh (ls s) c=Hh ((ls s).drop (k+1)) c):=aa (by
     rw[g.o,j.o,Ji,ar.2 (λx=>h x.symm),nB])
    clear h;go_wp2
    go_round
    case rel=>exact⟨k+1,by omega,by go_num,d.o⟩
    case measure=>simp[intOf];omega
  ·have d:Hid (Hh (ls s) c=false):=aa (by rw[g.o,gF (by rw[aN];omega)];rfl);have b2:(s.size:Int)<=(k:Int):=by omega
   clear a;go_wp2;go_ret;exact⟨by rw[d.o];rfl,rfl⟩
theorem Ky(s:abO):mg s=(Hh (ls s) 43 || Hh (ls s) 35):=by
 unfold mg;generalize ls s=l
 induction l with
 | nil=>rfl
 | cons b l ih=>
   rw[List.any_cons,ih,Ji,Ji,lf];by_cases a:b=43
   ·subst a;simp
   ·by_cases c:b=35
    ·subst c;simp
    ·have e:decide (b.toNat=43\/b.toNat=35)=false:=ah (by
      rintro (x| x)
      ·exact a (UInt8.toNat_inj.1 x)
      ·exact c (UInt8.toNat_inj.1 x))
     rw[e,ar.2 (λx=>a x.symm),ar.2 (λx=>c x.symm)];simp
theorem Hg(s:abO)(w:abP)(hs:s.size<=4611686018427387904):
  abT 186 #[.string s] w (.bool (fp s)):=by
 have j:Hid (fp s=((decide (s.size≠0)&&YF s)&& !(Hh (ls s) 43 || Hh (ls s) 35))):=aa (by unfold fp jY;rw[Ky]);have h:=kR s;have i:=aa hs;clear hs
 go_enter func186,ntmps186;by_cases a:s.size=0
 ·rw[au a]at h;have b:Hid (fp s=false):=aa (by rw[j.o,ah (λx=>x a)];rfl);clear a;go_wp2;go_ret;exact⟨by rw[b.o];rfl,rfl⟩
 rw[ah a]at h;have f:Hid (fp s=(YF s&& !(Hh (ls s) 43 || Hh (ls s) 35))):=aa (by rw[j.o,au a,aL]);clear a;go_wp2_with fail;refine(xj s _ i.o).mono ?_;rintro e l ⟨rfl,rfl⟩;cases d:YF s
 ·have b:Hid (fp s=false):=aa (by rw[f.o,d];rfl);clear d;go_wp2;go_ret;exact⟨by rw[b.o];rfl,rfl⟩
 have g:Hid (fp s= !(Hh (ls s) 43 || Hh (ls s) 35)):=aa (by rw[f.o,d,aL]);clear d;go_wp2_with fail;refine(Iv s 43 _ i.o).mono ?_;rintro e l ⟨rfl,rfl⟩;cases c:Hh (ls s) 43;rotate_left
 ·have b:Hid (fp s=false):=aa (by rw[g.o,c];rfl);clear c;go_wp2;go_ret;exact⟨by rw[b.o];rfl,rfl⟩
 have k:Hid (fp s= !Hh (ls s) 35):=aa (by rw[g.o,c,nB]);clear c;go_wp2_with fail;refine(Iv s 35 _ i.o).mono ?_;rintro e l ⟨rfl,rfl⟩;go_wp2;go_ret;exact⟨by rw[k.o];rfl,rfl⟩
end
