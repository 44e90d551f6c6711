/- Parts: RhB, TsP, TsA, Laid, Goes, OpenI, OpenL. -/
import Derived.Test.YtmohmcgbejojcaaGreatDoorTsG0Rsp
import Derived.Test.YtmohmcgbejojcaaGreatDoorCards
import Derived.Test.YtmohmcgbejojcaaGreatDoorTie
import Derived.ChangeVars
import Derived.LaidLaws
import Derived.LaidHandle
import Derived.SevenTiedAt
import Derived.Seven
set_option maxRecDepth 10000
set_option maxHeartbeats 8000000
namespace Go.Proofs.YtmohmcgbejojcaaGreatDoor
open Go.RowKit Go.Proofs.Tryz
section
theorem Kf(v:Int)(p:Pk)(h:Hs)(w:abP)(ip:PkIn w w.heap.size p h)(ok:PkOk p)(hk:1<=p.kind):
  abR 48 #[.int .i64 v,pkV p h] w (.int .i64 (chE v p)):=by
 have c:=aa ok;have q:=aa hk
 have a:=aa ((St.start w).push ip);have j:=a.o.cell 0 rfl 0;have o:=a.o.ld 0 rfl;simp only[cI]at j;clear ip ok hk;by_cases d:p.kind<=2
 focus
  have b:Hid (chE v p=eR v p):=aa (by unfold chE;rw[if_pos (by omega)]);have s:p.kind<=2:=by omega
  clear d;go_enter func48,ntmps48;go_wp2_with fail;refine(Ic v p h _ (a.o.into 0 rfl) c.o).mono ?_
 rotate_left;by_cases f:p.kind=3
 focus
  have b:Hid (chE v p=ii v p):=aa (by unfold chE;rw[Fl (by omega),if_pos (by omega)]);have g:2<p.kind:=by omega
  have t:(p.kind==3)=true:=aK.2 (by omega);clear d f;go_enter func48,ntmps48;go_wp2_with fail;refine(IW v p h _ (a.o.into 0 rfl) c.o).mono ?_
 rotate_left;by_cases i:p.kind<=7
 focus
  have b:Hid (chE v p=eS v p):=aa (by unfold chE;rw[Fl (by omega),Fl (by omega),if_pos (by omega)]);have g:2<p.kind:=by omega
  have f1:(p.kind==3)=false:=ar.2 (by omega);have u:p.kind<=7:=by omega
  clear d f i;go_enter func48,ntmps48;go_wp2_with fail;refine(IZ v p h _ (a.o.into 0 rfl) c.o).mono ?_
 rotate_left;by_cases l:p.kind<=11
 focus
  have b:Hid (chE v p=sbE v p):=aa (by unfold chE;rw[Fl (by omega),Fl (by omega),Fl (by omega),if_pos (by omega)]);have g:2<p.kind:=by omega
  have f1:(p.kind==3)=false:=ar.2 (by omega);have n:7<p.kind:=by omega
  have x:p.kind<=11:=by omega
  clear d f i l;go_enter func48,ntmps48;go_wp2_with fail;refine(Kh v p h _ (a.o.into 0 rfl) c.o).mono ?_
 rotate_left;have b:Hid (chE v p=fH v p):=aa (by unfold chE;rw[Fl (by omega),Fl (by omega),Fl (by omega),Fl (by omega)]);have g:2<p.kind:=by omega
 have f1:(p.kind==3)=false:=ar.2 (by omega);have n:7<p.kind:=by omega
 have r:11<p.kind:=by omega
 clear d f i l;go_enter func48,ntmps48;go_wp2_with fail;refine(IY v p h _ (a.o.into 0 rfl) c.o).mono ?_
 all_goals
  rintro e y ⟨rfl,k⟩;have m:=aa (a.o.below k);clear k o j
  go_wp2;go_ret;exact⟨by rw[b.o];rfl,m.o.kept⟩
theorem KM(v:Int)(p:Pk)(h:Hs)(w:abP)(ip:PkIn w w.heap.size p h)(ok:PkOk p)(hz:MV v p)(hk:1<=p.kind):
  abR 49 #[.int .i64 v,pkV p h] w (.string (chB v p).1):=by
 have c:=aa ok;have s:=aa hk
 have a:=aa ((St.start w).push ip);have n:=aa hz;have k:=a.o.cell 0 rfl 0;have r:=a.o.ld 0 rfl;simp only[cI]at k;clear ip ok hk hz;by_cases d:p.kind<=2
 focus
  have b:Hid ((chB v p).1=(Dm v p).1):=aa (by unfold chB;rw[if_pos (by omega)]);have u:p.kind<=2:=by omega
  clear d;go_enter func49,ntmps49;go_wp2_with fail;refine(Ls v p h _ (a.o.into 0 rfl) c.o).mono ?_
 rotate_left;by_cases f:p.kind=3
 focus
  have b:Hid ((chB v p).1=(Gf v p).1):=aa (by unfold chB;rw[Fl (by omega),if_pos (by omega)]);have g:2<p.kind:=by omega
  have x:(p.kind==3)=true:=aK.2 (by omega);clear d f;go_enter func49,ntmps49;go_wp2_with fail;refine(JV v p h _ (a.o.into 0 rfl) c.o).mono ?_
 rotate_left;by_cases i:p.kind<=7
 focus
  have b:Hid ((chB v p).1=⟨(Ga v p).1.toArray⟩):=aa (by unfold chB;rw[Fl (by omega),Fl (by omega),if_pos (by omega)]);have g:2<p.kind:=by omega
  have f1:(p.kind==3)=false:=ar.2 (by omega);have y:p.kind<=7:=by omega
  clear d f i;go_enter func49,ntmps49;go_wp2_with fail;refine(Yt v p h _ (a.o.into 0 rfl) c.o).mono ?_
 rotate_left;by_cases m:p.kind<=11
 focus
  have b:Hid ((chB v p).1=(sbB v p).1):=aa (by unfold chB;rw[Fl (by omega),Fl (by omega),Fl (by omega),if_pos (by omega)]);have g:2<p.kind:=by omega
  have f1:(p.kind==3)=false:=ar.2 (by omega);have q:7<p.kind:=by omega
  have z:p.kind<=11:=by omega
  have j:=n.o (by omega);clear d f i m;go_enter func49,ntmps49;go_wp2_with fail;refine(Nn v p h _ (a.o.into 0 rfl) c.o j).mono ?_
 rotate_left;have b:Hid ((chB v p).1=⟨(Yq v p).1.toArray⟩):=aa (by unfold chB;rw[Fl (by omega),Fl (by omega),Fl (by omega),Fl (by omega)]);have g:2<p.kind:=by omega
 have f1:(p.kind==3)=false:=ar.2 (by omega);have q:7<p.kind:=by omega
 have t:11<p.kind:=by omega
 clear d f i m;go_enter func49,ntmps49;go_wp2_with fail;refine(Kc v p h _ (a.o.into 0 rfl) c.o).mono ?_
 all_goals
  rintro e A ⟨rfl,l⟩;have o:=aa (a.o.below l);clear l r k
  go_wp2;go_ret;exact⟨by rw[b.o];rfl,o.o.kept⟩
def whS(v:Int)(p:Pk):abO×Int:=if mqE v p=0 then((chB v p).1,0)else(⟨#[]⟩,mqE v p)
theorem Ke(v:Int)(p:Pk)(h:Hs)(w:abP)(ip:PkIn w w.heap.size p h)(ok:PkOk p)(hz:MV v p):
  abR 28 #[.int .i64 v,pkV p h] w (.tuple #[.string (whS v p).1,.int .i64 (whS v p).2]):=by
 have C:=aa ok;have I:=aa hz
 have c:=aa ((St.start w).push ip);have b:Hid (∀x,mqE v p=x->x≠0->whS v p=(⟨#[]⟩,x)):=aa (λx F K=>by unfold whS;rw[Fl (by rw[F];exact K),F]);have t:Hid (mqE v p=if YG v=false then 2 else if dS v p.kind=false then 8 else if chE v p≠0 then chE v p else if 268435455<(chB v p).1.size then 4 else 0):=aa rfl;clear ip ok hz;go_enter func28,ntmps28;go_wp2_with fail;refine(pS v _).mono ?_;rintro e Q ⟨rfl,rfl⟩;cases f:YG v
 ·have a:Hid (whS v p=(⟨#[]⟩,2)):=aa (b.o 2 (by rw[t.o,if_pos f]) (by decide));clear f;go_wp2;go_ret2;exact⟨by rw[a.o];rfl,c.o.kept⟩
 have m:Hid (mqE v p=if dS v p.kind=false then 8 else if chE v p≠0 then chE v p else if 268435455<(chB v p).1.size then 4 else 0):=aa (by rw[t.o,Fl (by rw[f];decide)]);have H:Hid (v=4\/v=5):=aa (aR (show decide (v=4\/v=5)=true from f));have n:Hid (dS v p.kind=decide (1<=p.kind/\(p.kind<=14\/(p.kind=15/\v=5)))):=aa rfl;clear f t;have u:=c.o.cell 0 rfl 0;simp only[cI]at u;cases l:dS v p.kind
 ·have a:Hid (whS v p=(⟨#[]⟩,8)):=aa (b.o 8 (by rw[m.o,if_pos l]) (by decide));have j:¬(1<=p.kind/\(p.kind<=14\/(p.kind=15/\v=5))):=Gy (n.o.symm.trans l);have f:=H.o;have k:p.kind<1\/(1<=p.kind/\15<p.kind)\/(p.kind=15/\v=4):=by omega
  clear l j f;rcases k with k| ⟨k,y⟩ | ⟨k,y⟩
  ·go_wp2;go_ret2;exact⟨by rw[a.o];rfl,c.o.kept⟩
  ·go_wp2;go_ret2;exact⟨by rw[a.o];rfl,c.o.kept⟩
  ·rw[k]at u;have N:(v==4)=true:=aK.2 y;clear k y;go_wp2;go_ret2;exact⟨by rw[a.o];rfl,c.o.kept⟩
 have g:Hid (mqE v p=if chE v p≠0 then chE v p else if 268435455<(chB v p).1.size then 4 else 0):=aa (by rw[m.o,Fl (by rw[l];decide)]);have j:1<=p.kind/\(p.kind<=14\/(p.kind=15/\v=5)):=aR (n.o.symm.trans l);have s:Hid (1<=p.kind):=aa j.1;have O:1<=p.kind:=by omega
 have P:p.kind<=15:=by omega
 have B:(p.kind==15&&v==4)=false:=by
  rw[Kz];by_cases e:p.kind=15
  ·exact .inr (ar.2 (by omega))
  ·exact .inl (ar.2 e)
 have z:=c.o.ld 0 rfl;clear l j m n;have A:(p.kind==15)=false\/((p.kind==15)=true/\(v==4)=false):=by
  cases e:(p.kind==15)
  ·exact .inl rfl
  ·refine .inr ⟨rfl,?_⟩;rw[e]at B
   simpa using B
 clear B;have G:∀(X:Unit),True:=λ_=>trivial;rcases A with A| ⟨A,L⟩
 all_goals
  go_wp2_with fail;refine Yg (Kf v p h _ (c.o.into 0 rfl) C.o s.o) λR o=>?_;have q:=aa (c.o.below o);clear o z u
  by_cases d:chE v p=0;rotate_left
  ·have a:Hid (whS v p=(⟨#[]⟩,chE v p)):=aa (b.o _ (by rw[g.o,if_pos d]) d);generalize chE v p=E at*;have M:(E !=0)=true:=aA.2 d;clear d g;go_wp2;go_ret2;exact⟨by rw[a.o];rfl,q.o.kept⟩
  have i:Hid (mqE v p=if 268435455<(chB v p).1.size then 4 else 0):=aa (by rw[g.o,Fl (λx=>x d)]);rw[d];clear d g;have z:=q.o.ld 0 rfl;go_wp2_with fail;refine Yg (KM v p h _ (q.o.into 0 rfl) C.o I.o s.o) λS o=>?_;have D:=aa (q.o.below o);clear o z
  by_cases r:268435455<(chB v p).1.size
  ·have a:Hid (whS v p=(⟨#[]⟩,4)):=aa (b.o 4 (by rw[i.o,if_pos r]) (by decide));have J:(268435455:Int)<((chB v p).1.size:Int):=by omega
   clear r i;go_wp2;go_ret2;exact⟨by rw[a.o];rfl,D.o.kept⟩
  ·have a:Hid (whS v p=((chB v p).1,0)):=aa (by unfold whS;rw[if_pos (by rw[i.o,Fl r])]);have J:((chB v p).1.size:Int)<=268435455:=by omega
   clear r i;go_wp2;go_ret2;exact⟨by rw[a.o];rfl,D.o.kept⟩
theorem Qm(v:Int)(p:Pk):(whS v p).2=mqE v p:=by
 unfold whS;split
 ·rename_i h;exact h.symm
 ·rfl
theorem UO(v:Int)(p:Pk)(h:Hs)(w:abP)(ip:PkIn w w.heap.size p h)(ok:PkOk p)(hz:MV v p):
  abR 14 #[.int .i64 v,pkV p h] w (.int .i64 (mqE v p)):=by
 have a:=(aq w.heap.size w).alloc (ac _) (.cells (pkC p h) PkT);have b:=aa a;have d:=aa (Ke v p h _ (ip.next a) ok hz);clear ip ok hz a;go_enter func14,ntmps14;go_wp2_with fail;refine d.o.mono ?_;rintro e g ⟨rfl,f⟩;have c:=aa (Yf b.o f);clear f;go_wp2;go_ret;exact⟨by rw[Qm];rfl,c.o⟩
theorem abI{v most:Int}{t:abO}(h:(smN v most t).2.2=0):mqE v (smN v most t).1=0/\mqS v (smN v most t).1=t.extract 0 (smN v most t).2.1:=by
 rw[nI]at h⊢;by_cases a:(hdR v t).2.2≠0
 ·rw[if_pos a]at h;exact absurd h a
 rw[Fl a]at h⊢;by_cases b:most<(hdZ v t:Nat)
 ·rw[if_pos b]at h;exact absurd h (by decide)
 rw[Fl b]at h⊢;by_cases c:t.size<hdZ v t
 ·rw[if_pos c]at h;exact absurd h (by decide)
 rw[Fl c]at h⊢;obtain⟨⟨q,n,e⟩,d⟩:∃r,mqR v (t.extract 0 (hdZ v t))=r:=⟨_,rfl⟩;rw[d]at h⊢;obtain rfl:e=0:=h;obtain⟨b1,b2,f,g⟩:=Ci d;refine⟨b1,b2.trans (eX ?_)⟩;rw[aj]at f;rw[ix,ix,ix,List.take_take,Nat.min_eq_left (by omega)]
theorem abz(v most:Int):∀(N:Nat) (t:abO) (a k:Nat) (l:List Pk),t.size<=N->
  ∃L,(smG v most t a k l).1=l++L/\(∀p∈L,mqE v p=0)/\a<=(smG v most t a k l).2.2.1/\(smG v most t a k l).2.2.1<=a+t.size/\(L.flatMap λp=>ls (mqS v p))=(ls t).take ((smG v most t a k l).2.2.1- a)
 | N,t,a,k,l,hN=>by
   rw[fK];split
   ·rename_i h0;have h1:=jD h0;obtain⟨f,g⟩:=abI h0;have h:(t.extract (smN v most t).2.1 t.size).size=t.size- (smN v most t).2.1:=by rw[aj];omega
    match N,hN with
    | 0,hN=>omega
    | N+1,hN=>
      obtain⟨L,c,d,i,j,e⟩:=abz v most N (t.extract (smN v most t).2.1 t.size) (a+(smN v most t).2.1) (k+1) (l++[(smN v most t).1]) (by omega);refine⟨(smN v most t).1 :: L,by rw[c,List.append_assoc];rfl,λp b=>?_,by omega,by omega,?_⟩
      ·rcases ie.1 b with b| b
       ·rw[b];exact f
       ·exact d p b
      ·rw[YS,e,g,ix,Y9,<-List.take_add]
       congr 1
       omega
   ·split
    ·exact⟨[],by simp,by simp,ac _,iX _ _,by simp⟩
    ·exact⟨[],by simp,by simp,ac _,iX _ _,by simp⟩
theorem abB{v most:Int}{s t:abO}{l:List Pk}{a k:Nat}{e:Int}(h:smG v most s 0 0 []=(l,t,a,k,e)):(∀p∈l,mqE v p=0)/\a<=s.size/\zq v l=s.extract 0 a:=by
 obtain⟨L,b,g,d,f,c⟩:=abz v most _ s 0 0 [] (ac _);rw[h]at b d f c;rw[dX]at b;dsimp only at b d f c;subst b;exact⟨g,by omega,eX (by rw[uk,c,ix,Nat.sub_zero])⟩
attribute [local go_sem ↓] xS
attribute [local go_sem] um
def abJ(w:abP)(v mp:Int)(g:Nat)(a:Nat)(e:Int)(x:abP)(e':Ending)(y:abP):Prop:=
 ∃A m c e2 K n d k t a2,e'= .returned (.tuple #[.slice A m c,.int .i64 e2])/\Bk y g SmT (smC v mp K n d a2 k e2)/\abQ w y/\(e≠0->m=0/\e2=e/\a2=a)/\(t:List UInt8)=t/\x.heap.size<=y.heap.size
theorem abE{w wb x:abP}{v mp:Int}{g:Nat}{cv:Value}{C:List abO}{t u:abO}{a k:Nat}{e:Int}(s:SLm w wb v mp g cv C t a k e x)(ht:t.size<=1000000)(hak:a<=1000000/\k<=1000000)(hu:u.size<=1000000):
  Calls prog 9 #[.pointer (some ⟨g,0,none⟩),.string u] x (abJ w v mp g a e x):=by
 obtain⟨K,n,c,b,d⟩:=s.sb;have A:n=t.size:=by rw[<-aN];exact d.len.symm
 by_cases j:e=0
 ·subst j;refine(d9 v mp g K n c a k t u wb x b d s.base.2.1 (by omega) (by omega)).mono ?_;rintro p y ⟨l,q,i,z,m,r,o,rfl,F⟩;exact⟨l,q,i,_,m,r,o,_,[],_,rfl,F.bk,Zw s.low s.base.2.2 s.low.size d s.base.1 F.mods,λh=>absurd rfl h,rfl,F.mods.size⟩
 ·refine Yg (pO v mp g K n c a k e j u x b) λy f=>?_;exact⟨none,0,0,e,K,n,c,k,[],a,rfl,Yh b f,Yf s.low f,λ_=>⟨rfl,rfl,rfl⟩,rfl,f.size⟩
theorem Kv{v:Int}(l:List Pk)(i:Nat):(zq v (l.take i)).size<=(zq v l).size:=by
 rw[<-aN,<-aN,uk,uk]
 conv=>rhs;rw[<-cg i l,fR,List.length_append]
 exact iX _ _
theorem J4(v mp md:Int)(s:abO)(Aa:Option Addr)(la:List Int)(ca:Nat)(Ab:Option Addr)(lb:List Int)(cb:Nat)(w:abP)(hra:Rd w w.heap.size 1 Aa la.length (iv la))(hrb:Rd w w.heap.size 1 Ab lb.length (iv lb)):
  abR 3 #[.int .i64 v,zW mp md,.string s,.slice Aa la.length ca,.slice Ab lb.length cb] w (.bool true):=by
 have bu:=aa hra;have bv:=aa hrb
 have aE:=aa ((aq w.heap.size w).alloc (ac _) (.cells #[.int .i64 mp,.int .i64 md] 23));have aJ:=aa (Bk.fresh w 23 #[.int .i64 mp,.int .i64 md]);clear hra hrb;unfold zW;go_enter func3,ntmps3;go_wp2_with fail;refine Yg (aag _) λw1 d=>?_;have K:=aa (Yf aE.o d);have P:=aa (Yh aJ.o d)
 clear d aE aJ;by_cases D:600<s.size
 ·have d1:(600:Int)<(s.size:Int):=by omega
  clear D;go_wp2;go_ret;exact⟨rfl,K.o⟩
 have d1:(s.size:Int)<=600:=by omega
 have HS:Hid (s.size<=600):=aa (by omega);clear D;by_cases D:20<la.length
 ·have d2:(20:Int)<(la.length:Int):=by omega
  clear D;go_wp2;go_ret;exact⟨rfl,K.o⟩
 have d2:(la.length:Int)<=20:=by omega
 have cC:Hid (la.length<=20):=aa (by omega);clear D;by_cases D:20<lb.length
 ·have d3:(20:Int)<(lb.length:Int):=by omega
  clear D;go_wp2;go_ret;exact⟨rfl,K.o⟩
 have d3:(lb.length:Int)<=20:=by omega
 have cD:Hid (lb.length<=20):=aa (by omega);clear D;have c0:w1.cell? ⟨w.heap.size,0,none⟩=some (.int .i64 mp):=P.o.cell 0;have c1:w1.cell? ⟨w.heap.size,1,none⟩=some (.int .i64 md):=P.o.cell 1;go_wp2_with fail;refine Yg (Zs v mp md _) λw2 d=>?_;have ai:=aa (Yf K.o d);have Q:=aa (Yh P.o d)
 clear d c0 c1 K P;by_cases G:nF v mp md=true;rotate_left
 ·rw[aaU G];clear G;go_wp2;go_ret;exact⟨rfl,ai.o⟩
 have bs:=aa G;have HV:=aa (tY G);have HM:=aa (ze G)
 rw[G];clear G;have c0:w2.cell? ⟨w.heap.size,0,none⟩=some (.int .i64 mp):=Q.o.cell 0;have c1:w2.cell? ⟨w.heap.size,1,none⟩=some (.int .i64 md):=Q.o.cell 1;have J:=aa (J9 v mp md s w2 (by have:=HS.o;omega));rw[Yb bs.o]at J;obtain⟨⟨pl,t0,B,n0,ee⟩,hG⟩:∃r,smG v mp s 0 0 []=r:=⟨_,rfl⟩;have aG:=aa hG;rw[hG]at J;dsimp only at J;unfold zW at J;clear hG;go_wp2_with fail;refine J.o.mono ?_;rintro e w3 ⟨A1,n1,cY,L1,rfl,bO,S,d,-,-⟩;have bj:=aa (Yf ai.o d);have bp:=aa (Yh Q.o d)
 have cK:=aa bO;have bq:=aa S
 clear c0 c1 d bO S ai Q J;dsimp only at bq⊢;have V:=aa (Bk.fresh w3 24 #[.slice Aa la.length ca,.slice Ab lb.length cb]);have BB:=(aq w3.heap.size w3).alloc (ac _) (.cells #[.slice Aa la.length ca,.slice Ab lb.length cb] 24);obtain⟨w4,a6⟩:∃x,w3.alloc (.cells #[.slice Aa la.length ca,.slice Ab lb.length cb] 24)=x:=⟨_,rfl⟩;have aS:=aa a6;rw[a6]at V BB;have dS:=aa BB;have bx:=aa (Yh bp.o BB);have B4:=aa (Yf bj.o BB);have W4:=aa (cK.o.below BB);have cS:=aa ((bu.o.below B4.o).wider B4.o.size);have cT:=aa ((bv.o.below B4.o).wider B4.o.size);have dU:=aa (show ∃q,w3.heap.size=q from⟨_,rfl⟩);have Y:=aa (xX (v:=v) (most:=mp) s.size s 0 0 [] (ac _) (by have:=HS.o;omega) (by simp));rw[aG.o]at Y;obtain⟨a5,bF,aY⟩:=abB aG.o;have bV:=aa a5;have bi:=aa bF;have aD:=aa aY
 clear BB bu bv a6 a5 bF aY;go_upto_region 7 with fail
 rw[aS.o];clear aS;go_wp2
 go_loopw [15] (λI wr=>∃i:Nat,i<=2/\I= .int .i64 i/\abQ w4 wr) (λI _=>2- (intOf I).toNat)
 case atStart=>exact⟨0,by omega,rfl,aq _ _⟩
 case round=>
  obtain⟨i,hi,rfl,aZ⟩:=hrel;have z:=aa aZ;have HI:=aa hi
  clear aZ;by_cases f:i<2
  ·have KL:=aa (Yh bx.o z.o);have cg:∃Ai l ci,wr.cell? ⟨w3.heap.size,i,none⟩=some (.slice Ai (l:List Int).length ci)/\Rd wr wr.heap.size 1 Ai l.length (iv l)/\l.length<=20:=by
    have bH:=Yh V.o z.o;rcases(show i=0\/i=1 by omega)with rfl| rfl
    ·exact⟨Aa,la,ca,bH.cell 0,(cS.o.below z.o).wider z.o.size,cC.o⟩
    ·exact⟨Ab,lb,cb,bH.cell 1,(cT.o.below z.o).wider z.o.size,cD.o⟩
   obtain⟨Ai,l,ci,bJ,bP,a1⟩:=cg;have bw:=aa bP;have aK:=aa a1
   have bn:=aa bJ;have cz:=aa ((Yh V.o z.o).free i);have aH:=aa f;have an:wrap64 ((i:Int)+1)=((i+1:Nat):Int):=by unfold wrap64;omega
   have b1:(0:Int)<=(i:Int):=by omega
   have b2:(i:Int)<2:=by omega
   have c0:wr.cell? ⟨w.heap.size,0,none⟩=some (.int .i64 mp):=KL.o.cell 0;have c1:wr.cell? ⟨w.heap.size,1,none⟩=some (.int .i64 md):=KL.o.cell 1;clear f hi bJ bP a1;go_wp2_with fail;refine(ZQ v mp md _).mono ?_;rintro e w5 ⟨R,h⟩;rw[if_pos bs.o]at h;obtain⟨g,rfl,hg,bk⟩:=h;have O:=aa R;have HG:=aa hg;have az:=aa bk
   have c2:w5.cell? ⟨w3.heap.size,i,none⟩=some (.slice Ai l.length ci):=by
    have D:=Yh V.o z.o;exact((Yh D R).cell i).trans ((D.cell i).symm.trans bn.o)
   have bA:=aa ((bw.o.below R).wider R.size);clear R hg bk c0 c1;go_wp2_with fail;refine(wY s Ai l ci _ bA.o (by have:=aK.o;omega) (by have:=HS.o;omega)).mono ?_;rintro e w6 ⟨cv,rfl,M,d⟩;obtain⟨C,hC⟩:∃C,rr s l=C:=⟨_,rfl⟩;have HJ:Hid (jO C=s):=aa (by rw[<-hC];exact zY s l);have bm:Hid (C.length=l.length+1):=aa (by rw[<-hC];exact aa8 s l);have cw:Hid (C.length<=21):=aa (by have:=bm.o;have:=aK.o;omega);rw[hC,<-bm.o]at M;obtain⟨Ac,cc,rfl,-,-⟩:=jK M;have br:=aa (zH M O.o.size);have cV:Hid (SLm wr w6 v mp g (.slice Ac C.length cc) C ⟨#[]⟩ 0 0 0 w6):=aa ⟨⟨none,0,0,Yh az.o d,Kp.none _ _⟩,br.o,Yf O.o d,aC O.o.size d.size,ac _,HG.o⟩;clear M d hC br O bA bw az bn cz c2;go_wp2
   go_loopw [18,20] (λmv I wq=>∃(j:Nat) (t:abO) (a k:Nat) (e:Int) (A:Option Addr) (m cm:Nat) (L:List (Pk×Hs)),j<=C.length/\I= .int .i64 j/\mv= .slice A m cm/\SLm wr w6 v mp g (.slice Ac C.length cc) C t a k e wq/\RowI w6 wq A m cm L/\(∀y∈L,gG g y)/\smG v mp (jO (C.take j)) 0 0 []=(L.map Prod.fst,t,a,k,e)) (λ_ I _=>C.length- (intOf I).toNat)
   case atStart=>exact⟨0,⟨#[]⟩,0,0,0,none,0,0,[],ag _,rfl,rfl,cV.o,RowI.start _ _,by simp,t7 HV.o 0 0 []⟩
   case round=>
    obtain⟨j,t,a,k,e,A,m,cm,L,hj,rfl,rfl,hS,H,bE,af⟩:=hrel;have S0:=aa hS;have F:=aa H;have AP:=aa bE;have aT:=aa af;have dV:=aa hj
    have aR:Hid ((jO (C.take j)).size<=600):=aa (aC (mr C j) (by rw[HJ.o];exact HS.o));have KS:=aa (kO HM.o.1 af);clear hS H bE af;by_cases f:j<C.length
    ·obtain⟨b,o,u,rfl,am,hu,c8⟩:=(DK S0.o.chunks).atS f;have HU:Hid (u.size<=600):=aa (aC (zX (iL hu)) (by rw[HJ.o];exact HS.o));have cJ:=aa (wZ hu);have b3:(0:Int)<=(j:Int):=by omega
     have b4:(j:Int)<(C.length:Int):=by omega
     have bL:wrap64 ((j:Int)+1)=((j+1:Nat):Int):=by have:=cw.o;unfold wrap64;omega
     have aI:=aa f;have CF:=aa (abK (T:=jO (C.take j)) (u:=u) S0.o F.o AP.o aT.o HM.o.1 (by have:=aR.o;omega) (by have:=HU.o;omega));rw[<-cJ.o]at CF;clear f hu am hj an;go_wp2_with fail;refine CF.o.mono ?_;rintro Z x2 ⟨A2,m2,cZ,L2,t2,a2,k2,e2,rfl,bD,ao,ae,ap2,bB,N⟩;have S1:=aa bD;have E:=aa ao;have bz:=aa ae;have cp:=aa ap2;have cr:=aa bB;have bX:=aa N
     have cG:Hid (m+m2<=100000000000):=aa (by
      obtain⟨q1,q2,q3,q4,q5⟩:=kO HM.o.1 N;have h7:=F.o.row.len;have h8:=ae.len;have h9:(jO (C.take (j+1))).size<=600:=aC (mr C (j+1)) (by rw[HJ.o];exact HS.o);rw[eD,List.length_append]at q2;omega)
     clear bD ao ae ap2 bB N CF c8;go_upto_region 17 with (at_builtin;refine tP rfl (.tmp 98) (.tmp 99) rfl (w0:=w6) (A:=A) (n:=m) (c:=cm) (L:=L) rfl E.o S1.o.base.2.1 A2 L2 m2 cZ rfl bz.o cr.o cG.o ?_;intro A' c' x3 H bK)
     have S2:=aa (S1.o.app E.o bK);have bY:=aa H;have cq:Hid (∀y∈L++L2,gG g y):=aa (λy hy=>(cj.1 hy).elim (AP.o y) (cp.o y));clear H bK S1 E bz S0 F;go_wp2;go_roundw
     case rel=>exact⟨j+1,t2,a2,k2,e2,A',m+m2,c',L++L2,aI.o,by first| rw[bL] | rfl,rfl,S2.o,bY.o,cq.o,bX.o⟩
     case measure=>(first| rw[bL] | skip);(first| simp only[intOf,dN] | simp[intOf]);have:=aI.o;omega
    ·obtain rfl:j=C.length:=by omega
     have aP:(pl,t0,B,n0,ee)=(L.map Prod.fst,t,a,k,e):=by
      have:=aT.o;rw[GK,HJ.o,aG.o]at this;exact this
     simp only[bG]at aP;obtain⟨U,rfl,rfl,rfl,rfl⟩:=aP;have aN:=aa U;have aQ:Hid (L.map Prod.fst=L1.map Prod.fst):=aa (by rw[bq.o,U]);have aM:Hid (∀x∈L,PkOk x.1):=aa (λx hx=>Y.o x.1 (by show x.1∈pl;rw[U];exact r8 hx));have OL:Hid (∀x∈L1,gz x.1):=aa (λx hx=>(Y.o x.1 (by show x.1∈pl;rw[U,aQ.o];exact r8 hx)).len);have aL:Hid (L.length<=600/\L1.length=L.length):=aa ⟨by
      have D:=KS.o.2.1;have h2:=KS.o.2.2.2.2;have:=aR.o;rw[eD]at D;omega,by have:=congrArg List.length aQ.o;simpa using this.symm⟩
     have bT:=aa (Yf z.o S0.o.low);have CS:=aa (uh A A1 m n1 cm cY L L1 wr F.o.read (W4.o.below bT.o) (λx hx=>(aM.o x hx).len) OL.o (by have:=F.o.row.len;have:=aL.o;omega) (by have:=W4.o.len;have:=aL.o;omega));rw[au aQ.o]at CS;have b4:(C.length:Int)<=(C.length:Int):=Int.le_refl _;have aB:Hid (t0.size<=600/\B<=600/\n0<=600):=aa (by have:=KS.o;have:=aR.o;omega);have cF:Hid (m=L.length):=aa F.o.row.len.symm;clear f aT KS hj U;go_wp2_with fail;refine CS.o.mono ?_;rintro Z x2 ⟨rfl,d⟩;have S1:=aa (S0.o.below d);have E:=aa (F.o.below d)
     clear d CS S0 F;obtain⟨Kb,nb,bC,am,c7⟩:=S1.o.sb;have aF:=aa am;clear am c7;go_wp2_with fail;refine(mV v mp g Kb nb bC B n0 ee _ aF.o).mono ?_;rintro Z x3 ⟨rfl,rfl⟩;go_wp2_with fail;refine(lS v mp g Kb nb bC B n0 ee _ aF.o).mono ?_;rintro Z x3 ⟨rfl,rfl⟩;have cU:=aa E.o.read;clear E;go_wp2
     go_loopw [23,24] (λsv I wz=>∃q:Nat,q<=L.length/\I= .int .i64 q/\sv= .string (zq v ((L.map Prod.fst).take q))/\abQ x2 wz) (λ_ I _=>L.length- (intOf I).toNat)
     case atStart=>exact⟨0,ag _,rfl,rfl,aq _ _⟩
     case round=>
      obtain⟨q,hq,rfl,rfl,bI⟩:=hrel;have ak:=aa bI;have HQ:=aa hq
      clear bI;have S:=cF.o;by_cases f:q<L.length
      ·obtain⟨b,o,p,h,rfl,e1,-,l1,i1⟩:=(cU.o.below ak.o).at (i:=q) (by omega);have ad:=iL e1;have HP:=aa (aM.o (p,h) ad);have bM:p∈pl:=by rw[aN.o];exact r8 ad
       have W:=aa (bV.o p bM);have cI:Hid (zq v ((L.map Prod.fst).take (q+1))=zq v ((L.map Prod.fst).take q)++mqS v p):=aa (by
        rw[<-abF]
        congr 1
        rw[fE (by rw[eD];exact f)]
        congr 2
        rw[List.getElem_map];have h9:L[q]? =some L[q]:=List.getElem?_eq_getElem f;rw[h9]at e1;rw[Option.some.inj e1])
       have cL:Hid ((zq v ((L.map Prod.fst).take q)).size<=600):=aa (aC (Kv _ q) (by
        rw[<-aN.o,aD.o,aj];have:=aB.o;omega))
       have cN:=aa (abN W.o);have dW:¬(9223372036854775807<(zq v ((L.map Prod.fst).take q)).size+(mqS v p).size):=by have:=cL.o;have:=cN.o;omega
       have bo:=aa i1;have cB:=aa l1
       have HZ:=aa (aaS W.o);have aO:=aa f;have b5:(0:Int)<=(q:Int):=by omega
       have b6:(q:Int)<(m:Int):=by omega
       have b7:(q:Int)<(L.length:Int):=by omega
       have bN:wrap64 ((q:Int)+1)=((q+1:Nat):Int):=by have:=aL.o;unfold wrap64;omega
       have hl:=l1 wr (aq _ _);clear e1 i1 l1 ad bM f hq S an;go_wp2_with fail;refine Yg (UI v p h _ bo.o HP.o HZ.o) λy1 d=>?_;have bl:=aa (Yf ak.o d);have cA:=aa (bo.o.next d)
       have da:=cB.o y1 d;have dT:=aa d;clear d hl;rw[Qo,W.o,show(mqB v p).1=mqS v p by unfold mqB;rw[if_pos W.o]];have CV:=aa (UO v p h _ cA.o HP.o HZ.o);rw[W.o]at CV;go_wp2_with fail;refine CV.o.mono ?_;rintro Z y2 ⟨rfl,d⟩;have ct:=aa (Yf bl.o d);clear d CV da;go_wp2;go_roundw
       case rel=>exact⟨q+1,aO.o,by first| rw[bN] | rfl,by rw[cI.o],ct.o⟩
       case measure=>rw[bN];simp only[intOf,dN];exact Nat.sub_lt_sub_left aO.o (ed q)
      focus
       obtain rfl:q=L.length:=by omega
       have cy:Hid (zq v ((L.map Prod.fst).take L.length)=s.extract 0 B):=aa (by
        rw[bt (by rw[eD];exact ac _),<-aN.o];exact aD.o)
       have cx:Hid ((s.extract 0 B).size=B):=aa (by rw[aj];have:=bi.o;omega);have SZ:=aa (S1.o.below ak.o);have b6:(m:Int)<=(L.length:Int):=by omega
       have b7:(L.length:Int)<=(m:Int):=by omega
       have s1:(0:Int)<=(B:Int):=by omega
       have s2:(B:Int)<=(s.size:Int):=by have:=bi.o;omega
       have OM:=aa (abE (u:=⟨#[192,0]⟩) SZ.o (by have:=aB.o;omega) (by have:=aB.o;omega) (by decide));rw[cy.o];obtain⟨X,hX⟩:∃X,s.extract 0 B=X:=⟨_,rfl⟩;have cM:=aa hX;have e1:((X.size:Int) != (B:Int))=false:=by rw[<-hX,cx.o];exact QX _
       rw[hX];clear f hq S cM;go_wp2_with fail;refine OM.o.mono ?_;rintro Z y3 ⟨A3,m3,c3,e3,K3,n3,d3,k3,t3,a3,rfl,a0,a4,ab,-,db⟩;have cE:=aa (Yf z.o a4);clear OM a4 db;by_cases he:ee=0
       focus
        subst he;clear ab a0
       rotate_left
       focus
        obtain⟨rfl,rfl,rfl⟩:=ab he;have e0:(e3 !=0)=true:=aA.2 he;have cu:=aa a0;clear he ab a0;go_wp2_with fail;refine(mV v mp g K3 n3 d3 a3 k3 e3 _ cu.o).mono ?_;rintro Z y4 ⟨rfl,rfl⟩
       rotate_left
      rotate_left 2
      all_goals
       go_wp2;go_roundw
       case rel=>exact⟨i+1,aH.o,by first| rw[an] | rfl,cE.o⟩
       case measure=>(first| rw[an] | skip);(first| simp only[intOf,dN] | simp[intOf]);have:=aH.o;omega
  ·obtain rfl:i=2:=by omega
   have W:=aa (Yf B4.o z.o);clear f hi;go_wp2;go_ret;exact⟨rfl,W.o⟩
end
end Go.Proofs.YtmohmcgbejojcaaGreatDoor
namespace Go.Proofs.YtmohmcgbejojcaaGreatDoor
open Go.ChangeShapes Go.WideShapes Go.ChangeAt Go.RowKit
open Go.Proofs.Tryz
def vh(c:Array Value):Obj->Obj
 | .cells _ t frozen=>.cells c t frozen
 | o=>o
def firstCells:Array Value:=(Go.Pinned.utf8FirstZ.map fun(n:Nat)=>Value.int .u8 n).toArray
def wI:Array Value:=#[.int .u8 128,.int .u8 191,.int .u8 160,.int .u8 191,.int .u8 128,.int .u8 159,.int .u8 144,.int .u8 191,.int .u8 128,.int .u8 143,
 .int .u8 0,.int .u8 0,.int .u8 0,.int .u8 0,.int .u8 0,.int .u8 0,.int .u8 0,.int .u8 0,.int .u8 0,.int .u8 0,.int .u8 0,.int .u8 0,.int .u8 0,.int .u8 0,.int .u8 0,.int .u8 0,.int .u8 0,.int .u8 0,.int .u8 0,.int .u8 0,.int .u8 0,.int .u8 0]
noncomputable def l7(os:Os):abP:=
 {World.holding prog os ⟨#[],#[],[]⟩with heap:=((World.holding prog os ⟨#[],#[],[]⟩).heap.modify 1 (vh firstCells)).modify 2 (vh wI)}
theorem qu(os:Os)(args:Array Value):laidMetH prog [("unicode/utf8.acceptRanges",Rows.laid_unicode_utf8_acceptRanges),("unicode/utf8.first",Rows.laid_unicode_utf8_first)] ((l7 os).forCall (λ_ _=>0) ⟨#[],args,[]⟩).memory:=
 laidMetH_of_parts (laidMet_of_run' 8 (by kernel_rfl) (by kernel_rfl)) (by kernel_rfl)
end Go.Proofs.YtmohmcgbejojcaaGreatDoor
namespace Go.Proofs.YtmohmcgbejojcaaGreatDoor
open Go
open Go.Proofs.Tryz
theorem abn:prog.funcs.toList.all (λf=>!f.goes)=true:=by kernel_rfl
theorem aaR{P:Program}(h:P.funcs.toList.all (λf=>!f.goes)=true)(f:FuncId):P.goes f=false:=by
 have b:∀a∈P.funcs.toList,Func.goes a=false:=λa d=>by
  have:=dL.1 h a d
  simpa using this
 have c:P.funcs.any Func.goes=false:=by
  rw[Array.any_eq_false'];intro x j;rw[b x (by simpa using j)]
  decide
 unfold Program.goes;rw[c,ru,Bool.or_false,List.any_eq_false];intro g _;cases e:P.funcs[g]? with
 | none=>simp
 | some a=>
   have i:a∈P.funcs.toList:=by simpa using qW e
   simp[b a i]
theorem aai{P:Program}(h:P.funcs.toList.all (λf=>!f.goes)=true){c:OpenClaim}(hs:c.start= .entering):false=c.goesBy P:=by
 unfold OpenClaim.goesBy Program.goesAt Program.goesFrom;rw[hs];cases P.funcNamed c.func with
 | none=>rfl
 | some f=>simp[aaR h f]
end Go.Proofs.YtmohmcgbejojcaaGreatDoor
namespace Go.Proofs.YtmohmcgbejojcaaGreatDoor.OI
open Go.Proofs.YtmohmcgbejojcaaGreatDoor
open Go.ChangeShapes Go.WideShapes Go.ChangeAt Go.RowKit Go.Deep
open Go.Proofs.Tryz
section
variable {H:Type} {enc:TypeId×Value->H} {P:Program} {w:abP} {base:Nat} {spare:Nat->Bool} {held:Bool}
def fu(P:Program)(t:TypeId)(d:DataW H):Prop:=∀z∈d.weights P t,z<=reachBytes
theorem fJ{e:TypeId}:∀ {ds:List (DataW H)} {d:DataW H},d∈ds->∀z∈d.weights P e,z∈DataW.weightsAll P e ds
 | [],_,h,_,_=>by simp at h
 | x :: ds,d,h,z,hz=>by
   unfold DataW.weightsAll;rcases ie.1 h with rfl| h
   ·exact cj.2 (.inl hz)
   ·exact cj.2 (.inr (fJ h z hz))
theorem fu.elem{t e:TypeId}{l r:List (DataW H)}(ht:P.underlying t=some (.slice e))(h:fu P t (.slice l r)){d:DataW H}(hd:d∈l):fu P e d:=λz a=>h z (by
 simp only[DataW.weights,ht];exact kV _ (cj.2 (.inl (fJ hd z a))))
theorem fu.len{t e:TypeId}{l r:List (DataW H)}(ht:P.underlying t=some (.slice e))(h:fu P t (.slice l r)):l.length*P.bytesOf e<=reachBytes:=by
 have:=h ((l.length+r.length)*P.bytesOf e) (by simp[DataW.weights,ht]);exact aC (iH _ (by omega)) this
theorem fu.str{t:TypeId}{s:List UInt8}(h:fu P t (.lit (.string s):DataW H)):s.length<=reachBytes:=h _ (by simp[DataW.weights])
theorem sized_at{ts:List TypeId}{ds:List (DataW H)}(h:(DataW.weightsEach P ts ds).all (· <=reachBytes)=true){j:Nat}{t:TypeId}{d:DataW H}(ht:ts[j]? =some t)(hd:ds[j]? =some d):fu P t d:=λz a=>by
 have:=dL.1 h _ (DataW.weights_mem_each ht hd z a)
 simpa using this
theorem iA{X:Type}{k:Nat}{C:X->List Value}(hk:∀x,(C x).length=k):∀l:List X,(l.flatMap C).length=l.length*k
 | []=>by simp
 | x :: l=>by
   rw[YS,List.length_append,hk,iA hk l,bM,iK];omega
theorem kQ{X:Type}{k:Nat}{C:X->List Value}(hk:∀x,(C x).length=k):∀(l:List X) (i r:Nat) (h:i<l.length),r<k->(l.flatMap C)[i*k+r]? =(C l[i])[r]?
 | x :: l,0,r,_,hr=>by
   rw[jU,bV,YS,jd (by rw[hk];exact hr)];rfl
 | x :: l,i+1,r,h,hr=>by
   have ih:=kQ hk l i r (by simpa using h) hr;rw[YS,iM (by rw[hk,iK];omega),hk];rw[show(i+1)*k+r- k=i*k+r by rw[iK];omega];exact ih
theorem rX{X:Type}[Inhabited X]{k:Nat}(C:X->List Value)(hk:∀x,(C x).length=k)(hk0:0<k){t e:TypeId}(ht:P.underlying t=some (.slice e))(hc:P.cellsOf e=k)(good:X->Prop)
  (hel:∀(n:Nat) (cs:List Value) (D:DataW H) (Pl:List MemPlace),DataW.trod enc P w base spare held n e cs=some (D,Pl)->fu P e D->(∀x∈Pl,x.block<w.heap.size)->∃x,cs=C x/\good x)
  {fuel:Nat}{cs:List Value}{d:DataW H}{ps:List MemPlace}(h:DataW.trod enc P w base spare held fuel t cs=some (d,ps))(hs:fu P t d)(hlt:∀x∈ps,x.block<w.heap.size):
  ∃(A:Option Addr) (l:List X) (c:Nat),cs=[.slice A l.length c]/\Rd w w.heap.size k A l.length (l.flatMap C)/\(∀x∈l,good x)/\l.length*P.bytesOf e<=reachBytes/\l.length<=c/\c<=maxLen:=by
 rcases open_slice ht h with ⟨rfl,_⟩ | ⟨a,len,cap,m,n,D,Pl,rfl,_,V,Q,G,p,N⟩
 ·exact⟨none,[],0,rfl,Rd.nil _ _ _ _,by simp,by simp,ac _,by unfold maxLen;omega⟩
 ·simp only[bG]at p;obtain⟨rfl,rfl⟩:=p;have T:len<=m:=by rw[G];split<;>omega
  have s:∀i,i<len->∃x,good x/\∀r u,(C x)[r]? =some u->w.cell? (a.add (i*k+r))=some u:=by
   intro i o;obtain⟨z,B,K⟩:=N i (by omega);obtain⟨x,rfl,M⟩:=hel n z _ _ K (hs.elem ht (jX.2 ⟨i,gn.2 o,rfl⟩)) (λy S=>hlt y (cj.2 (.inr (ou.2 ⟨i,gn.2 (by omega),S⟩))));refine⟨x,M,λr u g=>?_⟩;rw[hc]at B;obtain⟨_,U,L⟩:=World.cells?_some B;have R:r<k:=by
    rcases fj r k with h| h
    ·exact h
    ·rw[aG (by rw[hk];exact h)]at g;cases g
   have:=L r R;rw[add_add]at this;rw[this,g]
  obtain⟨f,E⟩:=choose_lt s;have b:((List.range len).map f).length=len:=by simp
  refine⟨some a,(List.range len).map f,cap,by rw[b],?_,?_,?_,by omega,Q⟩
  ·by_cases J:len=0
   ·subst J;exact Rd.nil _ _ _ _
   ·rw[b];refine qX (by rw[iA hk,b]) ?_ ?_
    ·have v:(MemPlace.cell a.block a.off)∈MemPlace.row a (m*P.cellsOf e):=by
      refine MemPlace.mem_row.2 ⟨0,?_,by simp⟩;rw[hc];exact Nat.mul_pos (by omega) hk0
     exact hlt _ (cj.2 (.inl v))
    ·intro j u g;have O:j<len*k:=by
      rcases fj j (len*k)with h| h
      ·exact h
      ·rw[aG (by rw[iA hk,b];exact h)]at g;cases g
     have q:j/ k<len:=iJ (by rw[eV];exact O);have I:j% k<k:=iI _ hk0;have e:j=j/ k*k+j% k:=by rw[eV];exact(Nat.div_add_mod j k).symm
     rw[e,kQ hk _ _ _ (by rw[b];exact q) I]at g;rw[e];exact(E _ q).2 _ _ (by simpa using g)
  ·intro x p;obtain⟨i,F,rfl⟩:=jX.1 p;exact(E i (gn.1 F)).1
  ·have:=hs.len ht
   simpa using this
end
section
variable {H:Type} {enc:TypeId×Value->H} {w:abP} {base:Nat} {spare:Nat->Bool} {held:Bool}
theorem CH{X:Type}(c:X->Value)(l:List X):l.flatMap (λz=>[c z])=l.map c:=by
 induction l with
 | nil=>rfl
 | cons z l ih=>simp only[YS,ih];rfl
theorem open_intsV{r:Reach}{b0:Nat}{v:Value}{d:DataW H}{ps:List MemPlace}(hval:Value.okWide prog w r b0 24 v)(hd:DataW.Trod enc prog w base spare held 24 v d ps)(hs:fu prog 24 d)(hlt:∀x∈ps,x.block<w.heap.size):
  ∃(A:Option Addr) (l:List Int) (c:Nat),v= .slice A l.length c/\Rd w w.heap.size 1 A l.length (iv l)/\(∀z∈l,(Lit.int .i64 z).wf=true)/\l.length<=140737488351232/\l.length<=c/\c<=maxLen:=by
 obtain⟨a,len,cap,rfl⟩:=okWide_slice underlying24 hval;obtain⟨f,p⟩:=hd;obtain⟨A,l,c,b,e,g,i,j,m⟩:=rX (X:=Int) (k:=1) (λz=>[Value.int .i64 z]) (λ_=>rfl) (by omega) underlying24 (by kernel_rfl) (λz=>(Lit.int .i64 z).wf=true)
  (λn t D s h hs _=>by obtain⟨z,rfl,_,q⟩:=GB underlying3 h;exact⟨z,rfl,q⟩) p hs hlt
 rw[CH]at e;simp[Value.cells]at b;obtain⟨rfl,rfl,rfl⟩:=b;refine⟨a,l,cap,rfl,e,g,?_,j,m⟩;have o:prog.bytesOf 3=8:=by kernel_rfl
 rw[o,reachBytes]at i;omega
end
end Go.Proofs.YtmohmcgbejojcaaGreatDoor.OI
namespace Go.Proofs.YtmohmcgbejojcaaGreatDoor
open Go.ChangeShapes Go.WideShapes Go.ChangeAt Go.RowKit Go.Deep
open Go.Proofs.Tryz
set_option maxRecDepth 100000
section
variable {H:Type} {enc:TypeId×Value->H} {w:abP} {base:Nat} {spare:Nat->Bool} {held:Bool}
theorem BU{n:Nat}{cs:List Value}{D:DataW H}{Pl:List MemPlace}(h:DataW.trod enc prog w base spare held n 23 cs=some (D,Pl)):∃a b:Int,cs=[.int .i64 a,.int .i64 b]:=by
 obtain⟨p,s,rfl,i,c,j,g⟩:=Iy underlying23 h;simp only[bG]at i;obtain⟨rfl,rfl⟩:=i;have f:prog.cellsOf 23=2:=by kernel_rfl
 rw[f]at c
 match cs,c with
 | [c0,c1],_=>
   match p,j with
   | [y0,y1],_=>
     have l:=vz g 0 (t:=3) (o:=0) (k:=1) (by kernel_rfl);have m:=vz g 1 (t:=3) (o:=1) (k:=1) (by kernel_rfl);obtain⟨q,d,rfl,_⟩:=GB underlying3 l;obtain⟨r,e,rfl,_⟩:=GB underlying3 m;simp only[Yl,ji,GG,GZ,gY,Hj]at d e;subst d e;exact⟨q,r,rfl⟩
theorem te{r:Reach}{b0:Nat}{v:Value}{d:DataW H}{ps:List MemPlace}(hval:Value.okWide prog w r b0 23 v)(hd:DataW.Trod enc prog w base spare held 23 v d ps):
  ∃a b:Int,v= .agg #[.int .i64 a,.int .i64 b]:=by
 have i:∃c,v= .agg c:=by
  simp only[Value.okWide,show prog.underlying 23=_ from underlying23]at hval;obtain⟨c,h,_⟩:=hval;exact⟨c,h⟩
 obtain⟨c,rfl⟩:=i;obtain⟨f,g⟩:=hd;obtain⟨a,b,e⟩:=BU g;refine⟨a,b,?_⟩;have e:c.toList=(#[.int .i64 a,.int .i64 b]:Array Value).toList:=e;rw[oz.1 e]
end
