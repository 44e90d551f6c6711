/- Parts: RhB, RgA, MSubX, RhC. -/
import Derived.Test.YtooikoiladioeaaGreatDoorMqG0MqC
import Derived.Test.YtooikoiladioeaaGreatDoorMqG0MSubR
set_option maxRecDepth 10000
set_option maxHeartbeats 8000000
namespace Go.Proofs.YtooikoiladioeaaGreatDoor
open Go.RowKit Go.Proofs.Tryz
section
attribute [local go_sem ↓] bD bF bH bI bu
attribute [local go_sem] bc aD bh bg bK bJ bd aY be aO ax cI dC dB dt dj di dA dr dp dn bW co bO bZ bX cz cy cw cu ct cC YB bS bP bR
theorem Kf(v:Int)(p:Pk)(h:Hs)(w:World)(ip:PkIn w w.heap.size p h)(ok:PkOk p)(hk:1<=p.kind):
  Calls prog 45 #[.int .i64 v,pkV p h] w fun e w'=>e= .returned (.int .i64 (chE v p))/\Below w.heap.size w w':=by
 have c:=aa ok;have q:=aa hk
 have a:=aa ((St.start w).push ip);have j:=a.o.cell 0 rfl 0;have o:=a.o.ld 0 rfl;simp only[cI]at j;clear ip ok hk
 by_cases d:p.kind<=2
 focus
  have b:Hid (chE v p=eR v p):=aa (by unfold chE;rw[if_pos (by omega)]);have s:p.kind<=2:=by omega
  clear d;go_enter func45,ntmps45
  go_wp2_with fail
  refine(Ic v p h _ (a.o.into 0 rfl) c.o).mono ?_
 rotate_left
 by_cases f:p.kind=3
 focus
  have b:Hid (chE v p=ii v p):=aa (by unfold chE;rw[ae (by omega),if_pos (by omega)]);have g:2<p.kind:=by omega
  have t:(p.kind==3)=true:=aK.2 (by omega);clear d f;go_enter func45,ntmps45
  go_wp2_with fail
  refine(IW v p h _ (a.o.into 0 rfl) c.o).mono ?_
 rotate_left
 by_cases i:p.kind<=7
 focus
  have b:Hid (chE v p=eS v p):=aa (by unfold chE;rw[ae (by omega),ae (by omega),if_pos (by omega)]);have g:2<p.kind:=by omega
  have f1:(p.kind==3)=false:=ar.2 (by omega);have u:p.kind<=7:=by omega
  clear d f i;go_enter func45,ntmps45
  go_wp2_with fail
  refine(IZ v p h _ (a.o.into 0 rfl) c.o).mono ?_
 rotate_left
 by_cases l:p.kind<=11
 focus
  have b:Hid (chE v p=sbE v p):=aa (by unfold chE;rw[ae (by omega),ae (by omega),ae (by omega),if_pos (by omega)]);have g:2<p.kind:=by omega
  have f1:(p.kind==3)=false:=ar.2 (by omega);have n:7<p.kind:=by omega
  have x:p.kind<=11:=by omega
  clear d f i l;go_enter func45,ntmps45
  go_wp2_with fail
  refine(Kh v p h _ (a.o.into 0 rfl) c.o).mono ?_
 rotate_left;have b:Hid (chE v p=fH v p):=aa (by unfold chE;rw[ae (by omega),ae (by omega),ae (by omega),ae (by omega)]);have g:2<p.kind:=by omega
 have f1:(p.kind==3)=false:=ar.2 (by omega);have n:7<p.kind:=by omega
 have r:11<p.kind:=by omega
 clear d f i l;go_enter func45,ntmps45
 go_wp2_with fail
 refine(IY v p h _ (a.o.into 0 rfl) c.o).mono ?_
 all_goals
  rintro e y ⟨rfl,k⟩;have m:=aa (a.o.below k);clear k o j
  go_wp2;go_ret;exact⟨by rw[b.o];rfl,m.o.kept⟩
theorem KM(v:Int)(p:Pk)(h:Hs)(w:World)(ip:PkIn w w.heap.size p h)(ok:PkOk p)(hz:MV v p)(hk:1<=p.kind):
  Calls prog 46 #[.int .i64 v,pkV p h] w fun e w'=>e= .returned (.string (chB v p).1)/\Below w.heap.size w w':=by
 have c:=aa ok;have s:=aa hk
 have a:=aa ((St.start w).push ip);have n:=aa hz;have k:=a.o.cell 0 rfl 0;have r:=a.o.ld 0 rfl;simp only[cI]at k;clear ip ok hk hz
 by_cases d:p.kind<=2
 focus
  have b:Hid ((chB v p).1=(Dm v p).1):=aa (by unfold chB;rw[if_pos (by omega)]);have u:p.kind<=2:=by omega
  clear d;go_enter func46,ntmps46
  go_wp2_with fail
  refine(Ls v p h _ (a.o.into 0 rfl) c.o).mono ?_
 rotate_left
 by_cases f:p.kind=3
 focus
  have b:Hid ((chB v p).1=(Gf v p).1):=aa (by unfold chB;rw[ae (by omega),if_pos (by omega)]);have g:2<p.kind:=by omega
  have x:(p.kind==3)=true:=aK.2 (by omega);clear d f;go_enter func46,ntmps46
  go_wp2_with fail
  refine(JV v p h _ (a.o.into 0 rfl) c.o).mono ?_
 rotate_left
 by_cases i:p.kind<=7
 focus
  have b:Hid ((chB v p).1=⟨(Ga v p).1.toArray⟩):=aa (by unfold chB;rw[ae (by omega),ae (by omega),if_pos (by omega)]);have g:2<p.kind:=by omega
  have f1:(p.kind==3)=false:=ar.2 (by omega);have y:p.kind<=7:=by omega
  clear d f i;go_enter func46,ntmps46
  go_wp2_with fail
  refine(Yt v p h _ (a.o.into 0 rfl) c.o).mono ?_
 rotate_left
 by_cases m:p.kind<=11
 focus
  have b:Hid ((chB v p).1=(sbB v p).1):=aa (by unfold chB;rw[ae (by omega),ae (by omega),ae (by omega),if_pos (by omega)]);have g:2<p.kind:=by omega
  have f1:(p.kind==3)=false:=ar.2 (by omega);have q:7<p.kind:=by omega
  have z:p.kind<=11:=by omega
  have j:=n.o (by omega);clear d f i m;go_enter func46,ntmps46
  go_wp2_with fail
  refine(Nn v p h _ (a.o.into 0 rfl) c.o j).mono ?_
 rotate_left;have b:Hid ((chB v p).1=⟨(Yq v p).1.toArray⟩):=aa (by unfold chB;rw[ae (by omega),ae (by omega),ae (by omega),ae (by omega)]);have g:2<p.kind:=by omega
 have f1:(p.kind==3)=false:=ar.2 (by omega);have q:7<p.kind:=by omega
 have t:11<p.kind:=by omega
 clear d f i m;go_enter func46,ntmps46
 go_wp2_with fail
 refine(Kc v p h _ (a.o.into 0 rfl) c.o).mono ?_
 all_goals
  rintro e A ⟨rfl,l⟩;have o:=aa (a.o.below l);clear l r k
  go_wp2;go_ret;exact⟨by rw[b.o];rfl,o.o.kept⟩
def whS(v:Int)(p:Pk):ByteArray×Int:=if mqE v p=0 then((chB v p).1,0)else(⟨#[]⟩,mqE v p)
theorem Ke(v:Int)(p:Pk)(h:Hs)(w:World)(ip:PkIn w w.heap.size p h)(ok:PkOk p)(hz:MV v p):
  Calls prog 26 #[.int .i64 v,pkV p h] w fun e w'=>e= .returned (.tuple #[.string (whS v p).1,.int .i64 (whS v p).2])/\Below w.heap.size w w':=by
 have C:=aa ok;have I:=aa hz
 have c:=aa ((St.start w).push ip);have b:Hid (∀x,mqE v p=x->x≠0->whS v p=(⟨#[]⟩,x)):=aa (fun x F K=>by unfold whS;rw[ae (by rw[F];exact K),F]);have t:Hid (mqE v p=if ba v=false then 2 else if dS v p.kind=false then 8 else if chE v p≠0 then chE v p else if 268435455<(chB v p).1.size then 4 else 0):=aa rfl;clear ip ok hz;go_enter func26,ntmps26
 go_wp2_with fail
 refine(pS v _).mono ?_;rintro e Q ⟨rfl,rfl⟩;cases f:ba v
 ·have a:Hid (whS v p=(⟨#[]⟩,2)):=aa (b.o 2 (by rw[t.o,if_pos f]) (by decide));clear f;go_wp2;go_ret2;exact⟨by rw[a.o];rfl,c.o.kept⟩
 have m:Hid (mqE v p=if dS v p.kind=false then 8 else if chE v p≠0 then chE v p else if 268435455<(chB v p).1.size then 4 else 0):=aa (by rw[t.o,ae (by rw[f];decide)]);have H:Hid (v=4\/v=5):=aa (aR (show decide (v=4\/v=5)=true from f));have n:Hid (dS v p.kind=decide (1<=p.kind/\(p.kind<=14\/(p.kind=15/\v=5)))):=aa rfl;clear f t;have u:=c.o.cell 0 rfl 0;simp only[cI]at u;cases l:dS v p.kind
 ·have a:Hid (whS v p=(⟨#[]⟩,8)):=aa (b.o 8 (by rw[m.o,if_pos l]) (by decide));have j:¬(1<=p.kind/\(p.kind<=14\/(p.kind=15/\v=5))):=Gy (n.o.symm.trans l);have f:=H.o;have k:p.kind<1\/(1<=p.kind/\15<p.kind)\/(p.kind=15/\v=4):=by omega
  clear l j f;rcases k with k| ⟨k,y⟩ | ⟨k,y⟩
  ·go_wp2;go_ret2;exact⟨by rw[a.o];rfl,c.o.kept⟩
  ·go_wp2;go_ret2;exact⟨by rw[a.o];rfl,c.o.kept⟩
  ·rw[k]at u;have N:(v==4)=true:=aK.2 y;clear k y;go_wp2;go_ret2;exact⟨by rw[a.o];rfl,c.o.kept⟩
 have g:Hid (mqE v p=if chE v p≠0 then chE v p else if 268435455<(chB v p).1.size then 4 else 0):=aa (by rw[m.o,ae (by rw[l];decide)]);have j:1<=p.kind/\(p.kind<=14\/(p.kind=15/\v=5)):=aR (n.o.symm.trans l);have s:Hid (1<=p.kind):=aa j.1;have O:1<=p.kind:=by omega
 have P:p.kind<=15:=by omega
 have B:(p.kind==15&&v==4)=false:=by
  rw[Kz]
  by_cases e:p.kind=15
  ·exact .inr (ar.2 (by omega))
  ·exact .inl (ar.2 e)
 have z:=c.o.ld 0 rfl;clear l j m n;have A:(p.kind==15)=false\/((p.kind==15)=true/\(v==4)=false):=by
  cases e:(p.kind==15)
  ·exact .inl rfl
  ·refine .inr ⟨rfl,?_⟩;rw[e]at B
   simpa using B
 clear B;have G:∀(X:Unit),True:=fun _=>trivial;rcases A with A| ⟨A,L⟩
 all_goals
  go_wp2_with fail
  refine Yg (Kf v p h _ (c.o.into 0 rfl) C.o s.o) fun R o=>?_;have q:=aa (c.o.below o);clear o z u
  by_cases d:chE v p=0
  rotate_left
  ·have a:Hid (whS v p=(⟨#[]⟩,chE v p)):=aa (b.o _ (by rw[g.o,if_pos d]) d);generalize chE v p=E at*;have M:(E !=0)=true:=aA.2 d;clear d g;go_wp2;go_ret2;exact⟨by rw[a.o];rfl,q.o.kept⟩
  have i:Hid (mqE v p=if 268435455<(chB v p).1.size then 4 else 0):=aa (by rw[g.o,ae (fun x=>x d)]);rw[d];clear d g;have z:=q.o.ld 0 rfl
  go_wp2_with fail
  refine Yg (KM v p h _ (q.o.into 0 rfl) C.o I.o s.o) fun S o=>?_;have D:=aa (q.o.below o);clear o z
  by_cases r:268435455<(chB v p).1.size
  ·have a:Hid (whS v p=(⟨#[]⟩,4)):=aa (b.o 4 (by rw[i.o,if_pos r]) (by decide));have J:(268435455:Int)<((chB v p).1.size:Int):=by omega
   clear r i;go_wp2;go_ret2;exact⟨by rw[a.o];rfl,D.o.kept⟩
  ·have a:Hid (whS v p=((chB v p).1,0)):=aa (by unfold whS;rw[if_pos (by rw[i.o,ae r])]);have J:((chB v p).1.size:Int)<=268435455:=by omega
   clear r i;go_wp2;go_ret2;exact⟨by rw[a.o];rfl,D.o.kept⟩
theorem Qm(v:Int)(p:Pk):(whS v p).2=mqE v p:=by
 unfold whS;split
 ·rename_i h;exact h.symm
 ·rfl
theorem UO(v:Int)(p:Pk)(h:Hs)(w:World)(ip:PkIn w w.heap.size p h)(ok:PkOk p)(hz:MV v p):
  Calls prog 18 #[.int .i64 v,pkV p h] w fun e w'=>e= .returned (.int .i64 (mqE v p))/\Below w.heap.size w w':=by
 have a:=(aq w.heap.size w).alloc (ac _) (.cells (pkC p h) PkT);have b:=aa a;have d:=aa (Ke v p h _ (ip.next a) ok hz);clear ip ok hz a;go_enter func18,ntmps18
 go_wp2_with fail
 refine d.o.mono ?_;rintro e g ⟨rfl,f⟩;have c:=aa (Yf b.o f);clear f;go_wp2;go_ret;exact⟨by rw[Qm];rfl,c.o⟩
theorem Kg(v:Int)(p:Pk)(h:Hs)(w:World)(ip:PkIn w w.heap.size p h)(ok:PkOk p)(hz:MV v p):
  Calls prog 8 #[.int .i64 v,pkV p h] w fun e w'=>e= .returned (.tuple #[.string (mqB v p).1,.int .i64 (mqB v p).2])/\Below w.heap.size w w':=by
 have z:=aa ok;have y:=aa hz
 have d:=aa ((St.start w).push ip);clear ip ok hz;have m:=d.o.ld 0 rfl;go_enter func8,ntmps8
 go_wp2_with fail
 refine Yg (Ke v p h _ (d.o.into 0 rfl) z.o y.o) fun F b=>?_;have g:=aa (d.o.below b);clear b m d
 rw[Qm]
 by_cases a:mqE v p=0
 rotate_left
 ·have j:Hid (mqB v p=(⟨#[]⟩,mqE v p)):=aa (by unfold mqB;rw[ae a]);generalize mqE v p=E at*;have D:(E !=0)=true:=aA.2 a;clear a;go_wp2;go_ret2;exact⟨by rw[j.o];rfl,g.o.kept⟩
 obtain⟨q,r,s,l⟩:=Ol a;obtain⟨f1,o⟩:=Ma q r s;have j:Hid (mqB v p=(mqS v p,0)):=aa (by unfold mqB;rw[if_pos a]);have n:(whS v p).1=(chB v p).1:=by unfold whS;rw[if_pos a]
 have u:Hid (mqS v p=⟨(hdS p.kind (mqF p) (chB v p).1.size).toArray⟩++(chB v p).1):=aa rfl;have i:=aa (fun W=>JF v p h W);rw[f1]at i;have c:=aa (fun W=>JW v p.kind (mqF p) (chB v p).1.size W l);rw[show hdB v p.kind (mqF p) (chB v p).1.size=(hdS p.kind (mqF p) (chB v p).1.size,0)from if_pos o]at c;have x:Hid ((hdS p.kind (mqF p) (chB v p).1.size).length<=5):=aa (by
  unfold hdS;rw[List.length_append,fM];have:(eP (chB v p).1.size).length<=4:=mO 3 _;omega)
 rw[a,n];simp only[Cx]at c;have t:=aa l;clear a q r s l f1 o n;generalize hdS p.kind (mqF p) (chB v p).1.size=T at*;generalize (chB v p).1=X at*;generalize mqF p=f at*;have m:=g.o.ld 0 rfl
 go_wp2_with fail
 refine Yg (i.o _) fun G b=>?_;have k:=aa (g.o.below b);clear b m g i
 have B:=k.o.cell 0 rfl 0;simp only[cI]at B
 go_wp2_with fail
 refine Yg (c.o _) fun H b=>?_;have A:=aa (k.o.below b);clear b k c
 have C:¬(9223372036854775807<T.length+X.size):=by have:=x.o;have:=t.o;omega
 go_wp2;go_ret2;exact⟨by rw[j.o,u.o];rfl,A.o.kept⟩
theorem UQ(v:Int)(p:Pk)(h:Hs)(w:World)(ip:PkIn w w.heap.size p h)(ok:PkOk p)(hz:MV v p):
  Calls prog 10 #[.int .i64 v,pkV p h] w fun e w'=>e= .returned (.tuple #[.int .i64 ((mqB v p).1.size:Nat),.int .i64 (mqB v p).2])/\Below w.heap.size w w':=by
 have a:=(aq w.heap.size w).alloc (ac _) (.cells (pkC p h) PkT);have b:=aa a;have d:=aa (Kg v p h _ (ip.next a) ok hz);clear ip ok hz a;go_enter func10,ntmps10
 go_wp2_with fail
 refine d.o.mono ?_;rintro e g ⟨rfl,f⟩;have c:=aa (Yf b.o f);clear f;go_wp2;go_ret2;exact⟨rfl,c.o⟩
theorem RH(v k:Int)(s:ByteArray)(w:World)(hs:s.size<=140737488351232):
  Calls prog 67 #[.int .i64 v,.int .i64 k,.string s] w (mu (gX v k s) w):=by
 have f:=aa hs;have g:=aa ((aq w.heap.size w).alloc (ac _) (.cells (pkC pk0 hs0) PkT));have j:=aa (Bk.fresh w PkT (pkC pk0 hs0));have U:=aW j.o;go_enter func67,ntmps67
 go_wp2_with fail
 refine(pS v _).mono ?_;rintro e W ⟨rfl,rfl⟩;cases D:ba v
 ·have E:Hid (gX v k s=(pk0,2)):=aa (by have b:jR v k=2:=LF (fun x=>by have h2:=Gy (show decide (v=4\/v=5)=false from D);exact h2 x.2);unfold gX;rw[b];rfl);clear D;go_wp2;refine av (aI rfl _ rfl (cO j.o _ _)) rfl ?_;exact cL E.o (bT g.o g.o.size (ac _) _ _)
 have F:=aR (show decide (v=4\/v=5)=true from D)
 by_cases Q:k<12
 ·have E:Hid (gX v k s=(pk0,2)):=aa (by have b:jR v k=2:=LF (fun x=>by omega);unfold gX;rw[b];rfl);clear D F;go_wp2;refine av (aI rfl _ rfl (cO j.o _ _)) rfl ?_;exact cL E.o (bT g.o g.o.size (ac _) _ _)
 have d4:decide (k<(12:Int))=false:=ah Q
 by_cases Y:15<k
 ·have E:Hid (gX v k s=(pk0,2)):=aa (by have b:jR v k=2:=LF (fun x=>by omega);unfold gX;rw[b];rfl);clear D Q F;go_wp2;refine av (aI rfl _ rfl (cO j.o _ _)) rfl ?_;exact cL E.o (bT g.o g.o.size (ac _) _ _)
 have d7:decide ((15:Int)<k)=false:=ah Y
 by_cases o:k=15
 focus
  have aB:(k==15)=true:=aK.2 o
  by_cases B:v=4
  ·have e4:(v==4)=true:=aK.2 B;have E:Hid (gX v k s=(pk0,8)):=aa (by have b:jR v k=8:=NH ⟨o,B⟩;unfold gX;rw[b];rfl);clear D Q Y F o B;go_wp2;refine av (aI rfl _ rfl (cO j.o _ _)) rfl ?_;exact cL E.o (bT g.o g.o.size (ac _) _ _)
  have e4:(v==4)=false:=ar.2 B;have HK:Hid (jR v k=0):=aa (L9 ⟨by omega,F⟩ (fun x=>B x.2));have m:=aa (SQ (s:=s) HK.o);clear D Q Y F o B U
 rotate_left;have aB:(k==15)=false:=ar.2 o;have HK:Hid (jR v k=0):=aa (L9 ⟨by omega,F⟩ (fun x=>o x.1));have m:=aa (SQ (s:=s) HK.o);clear D Q Y F o U
 all_goals
  go_wp2_with fail
  refine(QN s _ (by have:=f.o;omega)).mono ?_;rintro e W ⟨rfl,h,C⟩;have ag:(w.alloc (.cells (pkC pk0 hs0) PkT)).heap.size=w.heap.size+1:=by simp
  have ae:=aa (Yf g.o C);have az:=aa (Yh j.o C)
  rw[ag]at h⊢;have J:=aa h;clear h C ag;have HZ:=aa J.o.lt;have O:Hid (RK w w.heap.size W.heap.size (w.heap.size+1) k 0 0 [] none 0 s 0 0 (W.alloc (.cells (pkC (aP k 0 0 []) hs0) PkT))):=aa
   ⟨ae.o.alloc ae.o.size _,az.o.alloc _,Bk.fresh _ _ _,⟨J.o.1.alloc _,J.o.2⟩,Rd.nil _ _ _ _,ac _,⟨by have:=HZ.o;omega,by omega,by have:=HZ.o;omega⟩,ac _,by have:=HZ.o;omega,by omega⟩
  go_wp2_with fail
  rw[yP];refine(G7 v k _).mono ?_;rintro e w2 ⟨rfl,rfl⟩;have HQ:Hid (Rr v k s=aP k 0 (QJ v k s).1 (QJ v k s).2.1):=aa rfl;have G:Hid (QJ v k s=if Ih v k=true then(0,[],0,0)else Qu v k s 0 0):=aa rfl;have i:=aa (SU (v:=v) (k:=k) f.o);cases hp:Ih v k
  focus
   have N:Hid (QJ v k s=Qu v k s 0 0):=aa (by rw[G.o,hp];rfl);clear hp G
   go_wp2_with fail
   refine(QV v k (w.heap.size+1) 0 s 0 _ O.o.cur f.o).mono ?_;rintro X x1 ⟨A,q,rfl,I,hr,h,u⟩;rw[<-N.o]at I hr h⊢;generalize QJ v k s=R at*;obtain⟨c,l,a2,e2⟩:=R;simp only at I hr h HQ m⊢;rw[HQ.o]at m i;have M:=i;have P:=aa (O.o.turn h u);have I5:=aa (P.o.put (c':=c) hr I);have aL:=P.o.pk.free 21;have aC:=P.o.pk.cell 21;have aM:=P.o.pk.free 24;have aD:=P.o.pk.cell 24;rw[YB]at aC;rw[bR]at aD;clear I hr h u;generalize T:W.heap.size=gp at*;clear T;have f:=cf (I5.o.pk.drewN 1)
   go_wp2_with fail
   refine je (fun V=>(kZ (.pointer (some ⟨gp,0,none⟩))).run prog V= .ok (pkV (aP k 0 c l) {hs0 with props:=⟨A,q⟩}) V) [5] (by kernel_rfl) ?_;refine Yi 0 [5] rfl f ?_;refine Yi 1 [5] rfl f ?_;refine Yi 2 [4,5] rfl f ?_;refine Yi 3 [4,5] rfl f ?_;refine Up 4 rfl (fun K b=>?_);go_simp
   go_at_call 75
   refine Yg (IY v (aP k 0 c l) _ _ (I5.o.drewN 1).into M.o) fun z1 C=>?_;have n:=aa ((I5.o.drewN 1).below C);clear C f
   have f:=cf n.o.pk;go_simp;refine b.out _ _ (fun _=>f) ?_;clear b K;refine Up 5 rfl (fun K b=>?_);go_simp
   go_at_call 100
   refine(QF (w.heap.size+1) a2 s e2 (fH v (aP k 0 c l)) (aP k 0 c l) {hs0 with props:=⟨A,q⟩} _ n.o.cur (fun y u=>n.o.stay u)).mono ?_;rintro X z2 ⟨kk,rfl,Z,u⟩;go_simp;refine b.out _ _ (fun hn=>absurd (hn 5 (by simp)) (by decide)) (mc (d:=5) (by simp) _ _ _ _ (by kernel_rfl) ?_);clear b K f;have H:=aa (QI (p:=aP k 0 c l) (t:=s) (a:=a2) (e:=e2) (x:=fH v (aP k 0 c l)) rfl rfl);obtain⟨R,hR⟩:∃R,Qx (aP k 0 c l) s a2 e2 (fH v (aP k 0 c l))=R:=⟨_,rfl⟩
  rotate_left
  focus
   have N:Hid (QJ v k s=(0,[],0,0)):=aa (by rw[G.o,hp];rfl);clear hp G;rw[HQ.o,N.o]at m i;simp only at m i;have M:=i;generalize T:W.heap.size=gp at*;clear T;have f:=cf (O.o.pk.drewN 1)
   go_wp2_with fail
   refine je (fun V=>(kZ (.pointer (some ⟨gp,0,none⟩))).run prog V= .ok (pkV (aP k 0 0 []) hs0) V) [5] (by kernel_rfl) ?_;refine Yi 0 [5] rfl f ?_;refine Yi 1 [5] rfl f ?_;refine Yi 2 [4,5] rfl f ?_;refine Yi 3 [4,5] rfl f ?_;refine Up 4 rfl (fun K b=>?_);go_simp
   go_at_call 75
   refine Yg (IY v (aP k 0 0 []) _ _ (O.o.drewN 1).into M.o) fun z1 C=>?_;have n:=aa ((O.o.drewN 1).below C);clear C f
   have f:=cf n.o.pk;go_simp;refine b.out _ _ (fun _=>f) ?_;clear b K;refine Up 5 rfl (fun K b=>?_);go_simp
   go_at_call 100
   refine(QF (w.heap.size+1) 0 s 0 (fH v (aP k 0 0 [])) (aP k 0 0 []) hs0 _ n.o.cur (fun y u=>n.o.stay u)).mono ?_;rintro X z2 ⟨kk,rfl,Z,u⟩;go_simp;refine b.out _ _ (fun hn=>absurd (hn 5 (by simp)) (by decide)) (mc (d:=5) (by simp) _ _ _ _ (by kernel_rfl) ?_);clear b K f;have H:=aa (QI (p:=aP k 0 0 []) (t:=s) (a:=0) (e:=0) (x:=fH v (aP k 0 0 [])) rfl rfl);obtain⟨R,hR⟩:∃R,Qx (aP k 0 0 []) s 0 0 (fH v (aP k 0 0 []))=R:=⟨_,rfl⟩
  rotate_left
  all_goals
   rw[hR]at Z m H⊢;clear hR;have aA:Hid (∀y,z2.grownBy y (some w.heap.size)->PkIn y y.heap.size R.1 kk):=aa (fun y hy=>PkIn.other_blk Z H.o.1 H.o.2 (n.o.res.mods (S:=fun z=>z=w.heap.size+1) (Mods.of_grown u rfl) (by omega)) (dY _ _) hy);have L:=aa (n.o.done (r:=R) Z u aA.o);have U:=aW (n.o.res.mods (S:=fun z=>z=w.heap.size+1) (Mods.of_grown u rfl) n.o.ne.2.1);refine Yj 6 rfl ?_;refine Yj 7 rfl ?_;refine Uq 8 rfl (fun K b=>?_);go_simp;refine b.out _ _ ?_;clear b K;refine Uq 9 rfl (fun K b=>?_);go_simp;refine b.out _ _ ?_;clear b K;refine QB (by kernel_rfl) ?_ _;go_wp2;refine av (aI rfl _ rfl L.o.2.1) rfl ?_;rw[m.o];exact⟨kk,rfl,L.o.2.2,L.o.1⟩
structure SRd (w wL:World) (g gp gc:Nat) (k i:Int) (l:List Pr) (A:Option Addr) (n:Nat) (t:ByteArray) (fi:List Fi) (cd:List Int) (F C:Hd) (a:Nat) (e:Int) (x:World):Prop where
 kept:Below w.heap.size w x
 res:Bk x g PkT (pkC pk0 hs0)
 pk:Bk x gp PkT (pkC {aP k i 0 l with filters:=fi,codes:=cd} {hs0 with props:=⟨A,n⟩,filters:=F,codes:=C})
 cur:IC x gc t a e
 rd:Rd x wL.heap.size 4 A l.length (prs l)
 cap:l.length<=n
 ne:g≠gp/\g≠gc/\gp≠gc
 base:w.heap.size<=g/\w.heap.size<=gp/\w.heap.size<=gc
 lt:g<wL.heap.size/\gp<wL.heap.size/\gc<wL.heap.size
 size:w.heap.size<=wL.heap.size/\wL.heap.size<=x.heap.size
section
variable {w wL x y:World} {g gp gc:Nat} {k i:Int} {l:List Pr} {A:Option Addr} {n:Nat} {fi fi':List Fi} {cd cd':List Int} {F F' C C':Hd} {t:ByteArray} {a a':Nat} {e e':Int}
theorem SRd.belowL(s:SRd w wL g gp gc k i l A n t fi cd F C a e x)(hb:Below wL.heap.size x y):SRd w wL g gp gc k i l A n t fi cd F C a e y:=
 ⟨s.kept.trans (hb.mono s.size.1),s.res.below hb s.lt.1,s.pk.below hb s.lt.2.1,⟨s.cur.1.below hb s.lt.2.2,s.cur.2⟩,s.rd.below hb,s.cap,s.ne,s.base,s.lt,s.size.1,aC s.size.2 hb.size⟩
theorem SRd.below(s:SRd w wL g gp gc k i l A n t fi cd F C a e x)(hb:Below x.heap.size x y):SRd w wL g gp gc k i l A n t fi cd F C a e y:=s.belowL (hb.mono s.size.2)
theorem SRd.drewN(s:SRd w wL g gp gc k i l A n t fi cd F C a e x)(m:Nat):SRd w wL g gp gc k i l A n t fi cd F C a e (x.drewN m):=s.below (aV (aq _ _) m)
theorem SRd.alloc(s:SRd w wL g gp gc k i l A n t fi cd F C a e x)(o:Obj):SRd w wL g gp gc k i l A n t fi cd F C a e (x.alloc o):=s.below ((aq _ _).alloc (ac _) o)
theorem SRd.grown(s:SRd w wL g gp gc k i l A n t fi cd F C a e x){r:Option Nat}(hg:x.grownBy y r)(hr:∀q,r=some q->wL.heap.size<=q):SRd w wL g gp gc k i l A n t fi cd F C a e y:=
 s.belowL ((aq wL.heap.size x).grown hg s.size.2 hr)
theorem SRd.turn(s:SRd w wL g gp gc k i l A n t fi cd F C a e x)(hc:IC y gc t a' e')(hm:Mods (fun z=>z=gc) x y):SRd w wL g gp gc k i l A n t fi cd F C a' e' y:=
 ⟨hm.below s.kept s.kept.size (fun q c=>by rw[show q=gc from c];exact s.base.2.2),s.res.mods hm s.ne.2.1,s.pk.mods hm s.ne.2.2,hc,
  DY s.rd s.cur.1 s.cur.1 (Yo _ _ _) (Yo _ _ _) (hm.mono (fun i _ b=>.inl b)) s.size.2,s.cap,s.ne,s.base,s.lt,s.size.1,aC s.size.2 hm.size⟩
theorem SRd.put(s:SRd w wL g gp gc k i l A n t fi cd F C a e x)(j:Nat)(u:Value)
  (hu:(pkC {aP k i 0 l with filters:=fi,codes:=cd} {hs0 with props:=⟨A,n⟩,filters:=F,codes:=C}).setIfInBounds j u=pkC {aP k i 0 l with filters:=fi',codes:=cd'} {hs0 with props:=⟨A,n⟩,filters:=F',codes:=C'}):
  SRd w wL g gp gc k i l A n t fi' cd' F' C' a e (x.setCell ⟨gp,j,none⟩ u):=by
 have b:=cP x gp j u;exact⟨dw s.kept b s.kept.size s.base.2.1,s.res.other (by simpa using s.ne.1) _,s.pk.upd j u hu,⟨s.cur.1.other (by simpa using s.ne.2.2.symm) _,s.cur.2⟩,
  DY s.rd s.pk s.pk (dY _ _) (dY _ _) (Mods.of_grown b (.inl rfl)) s.size.2,s.cap,s.ne,s.base,s.lt,s.size.1,aC s.size.2 b.size⟩
end
theorem iE.turn{w x y:World}{gc:Nat}{l:List Fi}{F:Hd}(h:iE w x l F)(hm:Mods (fun z=>z=gc) x y)(hg:gc<w.heap.size):iE w y l F:=jg h hm (fun k a e=>by have:=(cX h k a).1;have e:k=gc:=e;omega)
theorem lR.turn{w x y:World}{gc:Nat}{l:List Int}{F:Hd}(h:lR w x l F)(hm:Mods (fun z=>z=gc) x y)(hg:gc<w.heap.size):lR w y l F:=jg h hm (fun k a e=>by have:=(cX h k a).1;have e:k=gc:=e;omega)
def TC(g:Nat)(h:Hs)(r:Pk×Int)(w:World)(e:Ending)(w':World):Prop:=∃k,(k=h\/(k=hs0/\r.1=pk0))/\e= .returned (.tuple #[pkV r.1 k,.int .i64 r.2])/\PkIn w' w'.heap.size r.1 k/\w.grownBy w' (some g)
theorem Rm(g a:Nat)(t:ByteArray)(e x:Int)(p:Pk)(h:Hs)(w:World)(hc:IC w g t a e)(hi:∀y,Mods (fun z=>z=g) w y->PkIn y y.heap.size p h):
  Calls prog 100 #[.pointer (some ⟨g,0,none⟩),pkV p h,.int .i64 x] w (TC g h (Qx p t a e x) w):=by
 have G:=aa hi;have s:Hid (DS w g p h t a e ((w.alloc (.cells (pkC p h) PkT)).alloc (.cells (pkC pk0 hs0) PkT))):=aa
  ⟨(Mods.refl w).alloc _ |>.alloc _,(Bk.fresh w PkT (pkC p h)).alloc _,by
    have:=Bk.fresh (w.alloc (.cells (pkC p h) PkT)) PkT (pkC pk0 hs0);rwa[show(w.alloc (.cells (pkC p h) PkT)).heap.size=w.heap.size+1 by simp]at this,⟨(hc.1.alloc _).alloc _,hc.2⟩,hc.lt⟩
 have q:Hid (Qx p t a e x=if QE t a e x≠0 then(pk0,QE t a e x)else(p,0)):=aa rfl;have o:Hid (QE t a e x=if(if e=0/\a<t.size then 5 else e)=0 then x else(if e=0/\a<t.size then 5 else e)):=aa rfl;clear hc hi;obtain⟨⟨f,i,j⟩,-⟩:=s.o.cur.cells;go_enter func100,ntmps100
 by_cases E:e=0
 rotate_left
 focus
  have P:(e==0)=false:=ar.2 E;have k:Hid (QE t a e x=if e=0 then x else e):=aa (by rw[o.o,ae (show ¬(e=0/\a<t.size)from fun y=>E y.1)]);clear E;clear f i j;obtain⟨⟨f,i,j⟩,-⟩:=s.o.cur.cells
  go_wp2_with fail
  refine(Qv g a t _ x _ s.o.cur).mono ?_;rintro B u ⟨rfl,c,m⟩;have b:=aa (s.o.turn c m);clear c m f i j
  rw[<-k.o]at b;obtain⟨d,l⟩:∃d,QE t a e x=d:=⟨_,rfl⟩;rw[l]at b q;clear k o l;obtain⟨⟨f,i,j⟩,-⟩:=b.o.cur.cells;have D:=aW b.o.res
  by_cases n:d=0
  ·subst n;have r:Hid (Qx p t a e x=(p,0)):=aa (by rw[q.o,ae (fun y=>y rfl)]);have J:=cf b.o.pk;go_wp2;refine av (aI rfl _ rfl (cO b.o.res _ _)) rfl ?_;rw[r.o];exact⟨h,.inl rfl,rfl,G.o _ (b.o.put _ _),(b.o.put _ _).grown⟩
  focus
   have r:Hid (Qx p t a e x=(pk0,d)):=aa (by rw[q.o,if_pos n])
  rotate_left
 rotate_left;subst E
 by_cases A:a<t.size
 focus
  have K:0<t.size- a:=by omega
  have k:Hid (QE t a 0 x=if(5:Int)=0 then x else 5):=aa (by rw[o.o,if_pos (show(0:Int)=0/\a<t.size from⟨rfl,A⟩)]);clear A
  go_wp2_with fail
  refine Yg (Qy g a t 0 _ s.o.cur) fun M C=>?_;have F:=aa (s.o.below C);clear C f i j
  obtain⟨⟨f,i,j⟩,-⟩:=F.o.cur.cells
  go_wp2_with fail
  refine(Qv g a t 0 5 _ F.o.cur).mono ?_;rintro B R ⟨rfl,c,m⟩;rw[if_pos rfl]at c;have v:=aa (F.o.turn c m);clear c m
  clear f i j;obtain⟨⟨f,i,j⟩,-⟩:=v.o.cur.cells
  go_wp2_with fail
  refine(Qv g a t _ x _ v.o.cur).mono ?_;rintro B u ⟨rfl,c,m⟩;have b:=aa (v.o.turn c m);clear c m f i j
  rw[<-k.o]at b;obtain⟨d,l⟩:∃d,QE t a 0 x=d:=⟨_,rfl⟩;rw[l]at b q;clear k o l;obtain⟨⟨f,i,j⟩,-⟩:=b.o.cur.cells;have D:=aW b.o.res
  by_cases n:d=0
  ·subst n;have r:Hid (Qx p t a 0 x=(p,0)):=aa (by rw[q.o,ae (fun y=>y rfl)]);have J:=cf b.o.pk;go_wp2;refine av (aI rfl _ rfl (cO b.o.res _ _)) rfl ?_;rw[r.o];exact⟨h,.inl rfl,rfl,G.o _ (b.o.put _ _),(b.o.put _ _).grown⟩
  focus
   have r:Hid (Qx p t a 0 x=(pk0,d)):=aa (by rw[q.o,if_pos n])
  rotate_left
 rotate_left
 focus
  have K:¬0<t.size- a:=by omega
  have k:Hid (QE t a 0 x=x):=aa (by rw[o.o,ae (show ¬((0:Int)=0/\a<t.size)from fun y=>A y.2),if_pos rfl]);clear A
  go_wp2_with fail
  refine Yg (Qy g a t 0 _ s.o.cur) fun M C=>?_;have v:=aa (s.o.below C);clear C
  clear f i j;obtain⟨⟨f,i,j⟩,-⟩:=v.o.cur.cells
  go_wp2_with fail
  refine(Qv g a t _ x _ v.o.cur).mono ?_;rintro B u ⟨rfl,c,m⟩;rw[if_pos rfl]at c;have b:=aa (v.o.turn c m);clear c m f i j
  rw[<-k.o]at b;obtain⟨d,l⟩:∃d,QE t a 0 x=d:=⟨_,rfl⟩;rw[l]at b q;clear k o l;obtain⟨⟨f,i,j⟩,-⟩:=b.o.cur.cells;have D:=aW b.o.res
  by_cases n:d=0
  ·subst n;have r:Hid (Qx p t a 0 x=(p,0)):=aa (by rw[q.o,ae (fun y=>y rfl)]);have J:=cf b.o.pk;go_wp2;refine av (aI rfl _ rfl (cO b.o.res _ _)) rfl ?_;rw[r.o];exact⟨h,.inl rfl,rfl,G.o _ (b.o.put _ _),(b.o.put _ _).grown⟩
  focus
   have r:Hid (Qx p t a 0 x=(pk0,d)):=aa (by rw[q.o,if_pos n])
  rotate_left
 rotate_left
 all_goals
  have Q:(d !=0)=true:=aA.2 n;clear n
  go_wp2_with fail
  have L:(zc (.pointer (some ⟨w.heap.size+1,0,none⟩)) (pkV pk0 hs0)).run prog u.drew= .ok () (dE u.drew (w.heap.size+1) pk0 hs0):=aW (b.o.res.drewN 1) pk0 hs0;have O:u.drew.cell? ⟨g,2,none⟩=some (.int .i64 d):=(b.o.cur.1.drewN 1).cell 2;have N:(dE u.drew (w.heap.size+1) pk0 hs0).cell? ⟨g,2,none⟩=some (.int .i64 d):=by
   have I:=(b.o.cur.1.drewN 1).mods (S:=fun z=>z=w.heap.size+1) (Mods.of_grown (cJ (u.drewN 1) (w.heap.size+1) pk0 hs0) rfl) (by have:=b.o.lt;omega);exact I.cell 2
  have H:Hid (DS w g p h t a d u.drew):=aa ⟨b.o.mods.drewN 1,b.o.pk.drewN 1,b.o.res.drewN 1,b.o.cur.drewN 1,b.o.lt⟩;clear D
  go_region_law (fail)
  all_goals
   go_wp2;refine av (aI rfl _ rfl (cO H.o.res _ _)) rfl ?_;rw[r.o];exact⟨hs0,.inr ⟨rfl,rfl⟩,rfl,⟨Rd.nil _ _ _ _,Rd.nil _ _ _ _,Rd.nil _ _ _ _,Rd.nil _ _ _ _,ag _,ag _,ag _,ag _⟩,(H.o.put _ _).grown⟩
section
variable {w wL x:World} {g gp gc:Nat} {k i:Int} {t:ByteArray} {a:Nat} {e:Int}
theorem SRd.props{l:List Pr}{A:Option Addr}{n:Nat}(s:SRd w wL g gp gc k i [] none 0 t [] [] hd0 hd0 a e x)(hr:Rd x x.heap.size 4 A l.length (prs l))(hc:l.length<=n):
  SRd w (x.setCell ⟨gp,24,none⟩ (.slice A l.length n)) g gp gc k i l A n t [] [] hd0 hd0 a e (x.setCell ⟨gp,24,none⟩ (.slice A l.length n)):=by
 have b:=cP x gp 24 (.slice A l.length n);have c:Bk (x.setCell ⟨gp,24,none⟩ (.slice A l.length n)) g PkT (pkC pk0 hs0):=s.res.other (by simpa using s.ne.1) _;have d:Bk (x.setCell ⟨gp,24,none⟩ (.slice A l.length n)) gp PkT (pkC {aP k i 0 l with filters:=[],codes:=[]} {hs0 with props:=⟨A,n⟩,filters:=hd0,codes:=hd0}):=s.pk.upd 24 _ rfl;have f:IC (x.setCell ⟨gp,24,none⟩ (.slice A l.length n)) gc t a e:=⟨s.cur.1.other (by simpa using s.ne.2.2.symm) _,s.cur.2⟩;have h:=dw s.kept b s.kept.size s.base.2.1;exact⟨h,c,d,f,(DY hr s.pk s.pk (dY _ _) (dY _ _) (Mods.of_grown b (.inl rfl)) (ac _)).wider b.size,hc,s.ne,s.base,⟨c.lt,d.lt,f.lt⟩,h.size,ac _⟩
end
theorem SRd.stay{w wL x y:World}{g gp gc:Nat}{k i:Int}{l:List Pr}{A:Option Addr}{n:Nat}{fi:List Fi}{cd:List Int}{F C:Hd}{t:ByteArray}{a:Nat}{e:Int}(s:SRd w wL g gp gc k i l A n t fi cd F C a e x)(hF:iE wL x fi F)(hC:lR wL x cd C)(hm:Mods (two gc g) x y):
  PkIn y y.heap.size {aP k i 0 l with filters:=fi,codes:=cd} {hs0 with props:=⟨A,n⟩,filters:=F,codes:=C}:=by
 have f:=s.lt;have c:iE wL y fi F:=jg hF hm (fun k d e=>by have:=(cX hF k d).1;rcases e with e| e<;>omega);have b:lR wL y cd C:=jg hC hm (fun k d e=>by have:=(cX hC k d).1;rcases e with e| e<;>omega);exact⟨Rd.nil _ _ _ _,b.into.1,c.into.1,(DY s.rd s.cur.1 s.res (Yo _ _ _) (dY _ _) hm s.size.2).wider (aC s.size.2 hm.size),ag _,b.into.2,c.into.2,s.cap⟩
theorem Tv(v k:Int):ir v k=(ba v&&It k):=by
 unfold ir ba It;rw[<-Ij,<-Ij]
theorem SZ(v k:Int)(s:ByteArray)(w:World)(hs:s.size<=1000000000000):
  Calls prog 66 #[.int .i64 v,.int .i64 k,.string s] w (qT (sbR v k s) w):=by
 have g:=aa hs;have ao:=aa ((aq w.heap.size w).alloc (ac _) (.cells (pkC pk0 hs0) PkT));have aE:=aa (Bk.fresh w PkT (pkC pk0 hs0));have bX:=aW aE.o;have bg:=aa (Tv v k);clear hs;go_enter func66,ntmps66
 go_wp2_with fail
 refine(pS v _).mono ?_;rintro e w1 ⟨rfl,rfl⟩;cases hk:ba v
 ·have HX:Hid (sbR v k s=(pk0,2)):=aa (by unfold sbR;rw[if_pos (by rw[bg.o,hk];rfl)]);clear hk;go_wp2;refine av (aI rfl _ rfl (cO aE.o _ _)) rfl ?_;exact kN HX.o (bT ao.o ao.o.size (ac _) _ _)
 go_wp2_with fail
 refine(Mn k _).mono ?_;rintro e w1 ⟨rfl,rfl⟩;cases hr:It k
 ·have HX:Hid (sbR v k s=(pk0,2)):=aa (by unfold sbR;rw[if_pos (by rw[bg.o,hk,hr];rfl)]);clear hk hr;go_wp2;refine av (aI rfl _ rfl (cO aE.o _ _)) rfl ?_;exact kN HX.o (bT ao.o ao.o.size (ac _) _ _)
 have HK:Hid (ir v k=true):=aa (by rw[bg.o,hk,hr];rfl);have HV:Hid (v=4\/v=5):=aa (aR hk);clear hk hr bX
 go_wp2_with fail
 refine(QN s _ (by have:=g.o;omega)).mono ?_;rintro e w1 ⟨rfl,E,G⟩;have bV:(w.alloc (.cells (pkC pk0 hs0) PkT)).heap.size=w.heap.size+1:=by simp
 have bH:=aa (Yf ao.o G);have ci:=aa (Yh aE.o G)
 rw[bV]at E⊢;have cb:=aa E;clear E G bV
 go_wp2_with fail
 refine(Qz (w.heap.size+1) 0 s 0 2 _ cb.o (by decide)).mono ?_;rintro e w2 ⟨rfl,E,B⟩;have a2:=aa (dw bH.o B bH.o.size (by omega));have aF:=aa (ci.o.mods (S:=fun z=>z=w.heap.size+1) (Mods.of_grown B rfl) (by omega));have ap:=aa E
 have HZ:=aa ap.o.lt;have bW:=gU s 0 0 (by omega);obtain⟨m,bw⟩:∃m,br s 0 0 2=m:=⟨_,rfl⟩;rw[bw]at bW⊢;have bK:=aa bw;obtain⟨TK,bq⟩:∃T,aH s 0 0 2=T:=⟨_,rfl⟩;have bL:Hid (lh v k s=fv v k s TK.2.1 TK.2.2):=aa (by unfold lh;rw[bq]);rw[bq]at ap;clear E B bw bq;obtain⟨T0,a0,e0⟩:=TK;simp only at bL ap;obtain⟨V,bv⟩:∃V:Int,V=(m:Int):=⟨_,rfl⟩;have hw:IntKind.i64.wrap (m:Int)=V:=by rw[bv,aQ];omega
 have HM:Hid (V=(m:Int)):=aa bv;clear bW bv;obtain⟨W0,bs⟩:∃W0,w2.alloc (.cells (pkC (aP k V 0 []) hs0) PkT)=W0:=⟨_,rfl⟩;have I3:Hid (SRd w W0 w.heap.size w2.heap.size (w.heap.size+1) k V [] none 0 s [] [] hd0 hd0 a0 e0 W0):=aa (by
  rw[<-bs];exact⟨a2.o.alloc a2.o.size _,aF.o.alloc _,Bk.fresh _ _ _,⟨ap.o.1.alloc _,ap.o.2⟩,Rd.nil _ _ _ _,ac _,⟨by have:=HZ.o;omega,by omega,by have:=HZ.o;omega⟩,⟨ac _,by have:=HZ.o;omega,by omega⟩,
   ⟨(aF.o.alloc _).lt,(Bk.fresh w2 PkT _).lt,(ap.o.1.alloc _).lt⟩,(a2.o.alloc a2.o.size _).size,ac _⟩)
 go_wp2_with fail
 rw[vS,bs];refine(QD v k (w.heap.size+1) a0 s e0 _ I3.o.cur (by have:=g.o;omega)).mono ?_;rintro e' x1 ⟨A,q,rfl,aL,hr,E,B⟩;rw[Ro,<-bL.o]at aL hr E⊢;have I4:=aa (I3.o.turn E (Mods.of_grown B rfl));obtain⟨R,hR⟩:∃R,lh v k s=R:=⟨_,rfl⟩;rw[hR]at aL hr E I4⊢;have a5:=aa hR;clear hR;obtain⟨l,a1,e1⟩:=R;simp only at aL hr E I4⊢;have co:=I4.o.pk.free 24;have cw:=(I4.o.pk.cell 24).trans (bR _ _);have I5:=aa (I4.o.props hr aL);obtain⟨Q,bO⟩:∃Q,x1.setCell ⟨w2.heap.size,24,none⟩ (.slice A l.length q)=Q:=⟨_,rfl⟩;rw[bO]at I5;clear aL hr E B hw bs I3;generalize cs:w2.heap.size=gp at*;go_wp2;clear bO cs co cw I4;obtain⟨aJ,bp⟩:∃R,lsR v k s (s.size+1) a1 e1 [] []=R:=⟨_,rfl⟩;have aS:=aa bp;clear bp
 go_loopg [] (s.size+1) (fun n wr=>∃(a:Nat) (e:Int) (p:List Fi) (j:List Int) (F C:Hd),lsR v k s n a e p j=aJ/\(e=0->s.size- a<n)/\(e=0->p.length<=a/\j.length<=a)/\((jm k=true->j=[]/\C=hd0)/\(jm k=false->p=[]/\F=hd0))/\
  SRd w Q w.heap.size gp (w.heap.size+1) k V l A q s p j F C a e wr/\iE Q wr p F/\lR Q wr j C)
 case atStart=>exact⟨a1,e1,[],[],hd0,hd0,aS.o,fun _=>by omega,fun _=>⟨ag _,ag _⟩,⟨fun _=>⟨rfl,rfl⟩,fun _=>⟨rfl,rfl⟩⟩,I5.o,dD _ _ _ _,dD _ _ _ _⟩
 case round=>
  obtain⟨a,e,p,j,F,C,hl,bU,bu,bz,hI,hF,hC⟩:=hrel;have bi:=aa bz;clear bz
  have HL:=aa hl;have bf:=aa bU;have aw:=aa bu;have I:=aa hI;have OF:=aa hF;have OC:=aa hC
  clear hl bU bu hI hF hC;have ce:=I.o.cur.cells.1.2.2
  by_cases he:e=0
  rotate_left
  focus
   have cI:(e==0)=false:=ar.2 he;have HX:Hid (aJ=(p,j,a,e)):=aa (by rw[<-HL.o,Es he]);have be:Hid (e≠0\/s.size<=a):=aa (.inl he);clear he;have aN:Hid (e≠0\/s.size<=a):=aa be.o;have ab:li v k s=(p,j,a,e):=by unfold li;rw[a5.o];exact aS.o.trans HX.o
   have O:=I.o.pk;have D:Hid (∀y,Mods (two (w.heap.size+1) w.heap.size) wr y->PkIn y y.heap.size {aP k V 0 l with filters:=p,codes:=j} {hs0 with props:=⟨A,q⟩,filters:=F,codes:=C}):=aa (fun y hy=>I.o.stay OF.o OC.o hy);have a4:Hid (∀b o,({hs0 with props:=⟨A,q⟩,filters:=F,codes:=C}:Hs).codes.a=some ⟨b,o,none⟩->w.heap.size<=b):=aa (fun b o e=>aC I.o.size.1 (cX OC.o b (by rw[show C.a=some ⟨b,o,none⟩from e];rfl)).1);obtain⟨P,hP⟩:∃P:Pk,({aP k V 0 l with filters:=p,codes:=j}:Pk)=P:=⟨_,rfl⟩;obtain⟨H,hH⟩:∃H:Hs,({hs0 with props:=⟨A,q⟩,filters:=F,codes:=C}:Hs)=H:=⟨_,rfl⟩;have Y:Hid (jj v k s=P):=aa (by unfold jj;rw[ab,a5.o,bK.o,<-hP,HM.o];rfl);rw[hP,hH]at O D;rw[hH]at a4;have aD:=aa O;have bk:Hid (PkOk P):=aa (by rw[<-Y.o];exact lU (by have:=g.o;omega));have a6:Hid (sbR v k s=Qx P s a e (sbE v P)):=aa (by
    unfold sbR;rw[ae (by rw[HK.o];decide),ab,Y.o];simp only;unfold Qx QE;rw[ae (show ¬(e=0/\a<s.size)from fun y=>by rcases aN.o with h| h;exact h y.1;omega)]
    by_cases J:(e:Int)=0
    ·rw[ae (fun x=>x J),if_pos J]
    ·rw[if_pos J,ae J,if_pos J])
   have t:=cf (O.drewN 1);clear ab hP hH O
   go_wp2_with fail
   refine je (fun w'=>(kZ (.pointer (some ⟨gp,0,none⟩))).run prog w'= .ok (pkV P H) w') [5] (by kernel_rfl) ?_;refine Yi 0 [5] rfl t ?_;refine Yi 1 [5] rfl t ?_;refine Yi 2 [4,5] rfl t ?_;refine Yi 3 [4,5] rfl t ?_;refine Up 4 rfl (fun K i=>?_);go_simp
   go_at_call 74
   refine Yg (Kh v P H _ (D.o _ ((Mods.refl _).drewN 1)) bk.o) fun z1 G=>?_;have L:=aa ((I.o.drewN 1).below G);have aB:Hid (Mods (two (w.heap.size+1) w.heap.size) wr z1):=aa (((Mods.refl _).drewN 1).trans (Mods.of_below G));have KP:=aa ((aD.o.drewN 1).below G (aD.o.drewN 1).lt);clear G t;have t:=cf KP.o;go_simp;refine i.out _ _ (fun _=>t) ?_;clear i K;refine Up 5 rfl (fun K i=>?_);go_simp
   go_at_call 100
   refine(Rm (w.heap.size+1) a s e (sbE v P) P H _ L.o.cur (fun y B=>D.o y (aB.o.trans (B.mono (fun _ _ h=>.inl h))))).mono ?_;rintro e' z2 ⟨kk,Z,rfl,hi,B⟩;go_simp;refine i.out _ _ (fun hn=>absurd (hn 5 (by simp)) (by decide)) (mc (d:=5) (by simp) _ _ _ _ (by kernel_rfl) ?_);clear i K t;have aG:Hid ((Qx P s a e (sbE v P)).1=P\/(Qx P s a e (sbE v P)).1=pk0):=aa (by unfold Qx;split;exact .inr rfl;exact .inl rfl);obtain⟨R,hR⟩:∃R,Qx P s a e (sbE v P)=R:=⟨_,rfl⟩;rw[hR]at hi Z a6 aG⊢;clear hR;have bM:Hid (∀y,z2.grownBy y (some w.heap.size)->PkIn y y.heap.size R.1 kk):=aa (fun y hy=>by
    have bx:Mods (two (w.heap.size+1) w.heap.size) wr y:=aB.o.trans ((Mods.of_grown B (.inl rfl)).trans (Mods.of_grown hy (.inr rfl)));rcases aG.o with U| U
    ·rw[U];rcases Z with M| ⟨M,h3⟩
     ·rw[M];exact D.o y bx
     ·rw[M,<-U,h3];exact wM _ _
    ·rw[U];exact⟨Rd.nil _ _ _ _,Rd.nil _ _ _ _,Rd.nil _ _ _ _,Rd.nil _ _ _ _,ag _,ag _,ag _,ag _⟩)
  rotate_left;subst he;obtain⟨n,rfl⟩:∃n,gk=n+1:=⟨gk- 1,by have:=bf.o (by first| rfl| trivial);omega⟩;rw[qn]at HL
  go_wp2_with fail
  refine Yg (Qy (w.heap.size+1) a s 0 _ I.o.cur) fun w3 G=>?_;have X:=aa (I.o.below G);have bN:Hid (iE Q w3 p F):=aa (dV OF.o G);have bl:Hid (lR Q w3 j C):=aa (dV OC.o G)
  clear G I OF OC ce
  by_cases hz:s.size<=a
  focus
   have e2:¬(0:Int)<((s.size- a:Nat):Int):=by omega
   have HX:Hid (aJ=(p,j,a,0)):=aa (by rw[<-HL.o,if_pos (.inr hz)]);have be:Hid ((0:Int)≠0\/s.size<=a):=aa (.inr hz);clear hz;have aN:Hid ((0:Int)≠0\/s.size<=a):=aa be.o;have ab:li v k s=(p,j,a,(0:Int)):=by unfold li;rw[a5.o];exact aS.o.trans HX.o
   have O:=X.o.pk;have D:Hid (∀y,Mods (two (w.heap.size+1) w.heap.size) w3 y->PkIn y y.heap.size {aP k V 0 l with filters:=p,codes:=j} {hs0 with props:=⟨A,q⟩,filters:=F,codes:=C}):=aa (fun y hy=>X.o.stay bN.o bl.o hy);have a4:Hid (∀b o,({hs0 with props:=⟨A,q⟩,filters:=F,codes:=C}:Hs).codes.a=some ⟨b,o,none⟩->w.heap.size<=b):=aa (fun b o e=>aC X.o.size.1 (cX bl.o b (by rw[show C.a=some ⟨b,o,none⟩from e];rfl)).1);obtain⟨P,hP⟩:∃P:Pk,({aP k V 0 l with filters:=p,codes:=j}:Pk)=P:=⟨_,rfl⟩;obtain⟨H,hH⟩:∃H:Hs,({hs0 with props:=⟨A,q⟩,filters:=F,codes:=C}:Hs)=H:=⟨_,rfl⟩;have Y:Hid (jj v k s=P):=aa (by unfold jj;rw[ab,a5.o,bK.o,<-hP,HM.o];rfl);rw[hP,hH]at O D;rw[hH]at a4;have aD:=aa O;have bk:Hid (PkOk P):=aa (by rw[<-Y.o];exact lU (by have:=g.o;omega));have a6:Hid (sbR v k s=Qx P s a (0:Int) (sbE v P)):=aa (by
    unfold sbR;rw[ae (by rw[HK.o];decide),ab,Y.o];simp only;unfold Qx QE;rw[ae (show ¬((0:Int)=0/\a<s.size)from fun y=>by rcases aN.o with h| h;exact h y.1;omega)]
    by_cases J:((0:Int):Int)=0
    ·rw[ae (fun x=>x J),if_pos J]
    ·rw[if_pos J,ae J,if_pos J])
   have t:=cf (O.drewN 1);clear ab hP hH O
   go_wp2_with fail
   refine je (fun w'=>(kZ (.pointer (some ⟨gp,0,none⟩))).run prog w'= .ok (pkV P H) w') [5] (by kernel_rfl) ?_;refine Yi 0 [5] rfl t ?_;refine Yi 1 [5] rfl t ?_;refine Yi 2 [4,5] rfl t ?_;refine Yi 3 [4,5] rfl t ?_;refine Up 4 rfl (fun K i=>?_);go_simp
   go_at_call 74
   refine Yg (Kh v P H _ (D.o _ ((Mods.refl _).drewN 1)) bk.o) fun z1 G=>?_;have L:=aa ((X.o.drewN 1).below G);have aB:Hid (Mods (two (w.heap.size+1) w.heap.size) w3 z1):=aa (((Mods.refl _).drewN 1).trans (Mods.of_below G));have KP:=aa ((aD.o.drewN 1).below G (aD.o.drewN 1).lt);clear G t;have t:=cf KP.o;go_simp;refine i.out _ _ (fun _=>t) ?_;clear i K;refine Up 5 rfl (fun K i=>?_);go_simp
   go_at_call 100
   refine(Rm (w.heap.size+1) a s (0:Int) (sbE v P) P H _ L.o.cur (fun y B=>D.o y (aB.o.trans (B.mono (fun _ _ h=>.inl h))))).mono ?_;rintro e' z2 ⟨kk,Z,rfl,hi,B⟩;go_simp;refine i.out _ _ (fun hn=>absurd (hn 5 (by simp)) (by decide)) (mc (d:=5) (by simp) _ _ _ _ (by kernel_rfl) ?_);clear i K t;have aG:Hid ((Qx P s a (0:Int) (sbE v P)).1=P\/(Qx P s a (0:Int) (sbE v P)).1=pk0):=aa (by unfold Qx;split;exact .inr rfl;exact .inl rfl);obtain⟨R,hR⟩:∃R,Qx P s a (0:Int) (sbE v P)=R:=⟨_,rfl⟩;rw[hR]at hi Z a6 aG⊢;clear hR;have bM:Hid (∀y,z2.grownBy y (some w.heap.size)->PkIn y y.heap.size R.1 kk):=aa (fun y hy=>by
    have bx:Mods (two (w.heap.size+1) w.heap.size) w3 y:=aB.o.trans ((Mods.of_grown B (.inl rfl)).trans (Mods.of_grown hy (.inr rfl)));rcases aG.o with U| U
    ·rw[U];rcases Z with M| ⟨M,h3⟩
     ·rw[M];exact D.o y bx
     ·rw[M,<-U,h3];exact wM _ _
    ·rw[U];exact⟨Rd.nil _ _ _ _,Rd.nil _ _ _ _,Rd.nil _ _ _ _,Rd.nil _ _ _ _,ag _,ag _,ag _,ag _⟩)
  rotate_left;have e2:0<s.size- a:=by omega
  have W:Hid (a<s.size):=aa (by omega);clear hz
  go_wp2_with fail
  refine Yg (No k _) fun w4 cv=>?_;subst cv;cases N:jm k
  ·have HA:=aa N;have au:Hid (lsR v k s n (a+1) 0 p (j++[((br s a 0 1:Nat):Int)])=aJ):=aa (by
    rw[<-HL.o,ae (by have:=W.o;rintro (h| h);exact h rfl;omega),ae (by rw[N];decide)])
   have bJ:Hid (j.length<=1000000000000):=aa (by have U:=aw.o (by first| rfl| trivial);have M:=W.o;have h3:=g.o;omega);have bj:Hid ((aH s a 0 1).2.1=a+1/\(aH s a 0 1).2.2=0):=aa (by
    have:aH s a 0 1=(s.extract a (a+1),a+1,0):=dZ (k:=1) W.o;rw[this];exact⟨rfl,rfl⟩)
   have hn:br s a 0 1<256:=iV s a 0;obtain⟨y,hy⟩:∃y,br s a 0 1=y:=⟨_,rfl⟩;rw[hy]at hn au;have HY:=aa hy;have cM:IntKind.i64.wrap (y:Int)=(y:Int):=by rw[aQ];omega
   clear N HL hy hn;have g:=(X.o.pk.cell 22).trans (bS _ _);simp only at g
   go_wp2_with fail
   refine je (fun w'=>w'.cell? ⟨gp,22,none⟩=some (.slice C.a j.length C.c)) [8] (by kernel_rfl) ?_
   replace g:w3.drew.cell? ⟨gp,22,none⟩=some (.slice C.a j.length C.c):=g
   refine Yi 0 [8] rfl g ?_;refine Yi 1 [8] rfl g ?_;refine Yi 2 [8] rfl g ?_;refine Up 3 rfl (fun K i=>?_);go_simp
   go_at_call 97
   refine(Qz (w.heap.size+1) a s 0 1 _ (X.o.drewN 1).cur (by decide)).mono ?_;rintro e' y1 ⟨rfl,hc,B⟩;rw[bj.o.1,bj.o.2]at hc;have L:=aa ((X.o.drewN 1).turn hc (Mods.of_grown B rfl));have P1:Hid (lR Q y1 j C):=aa ((show lR Q (w3.drewN 1) j C from bl.o).turn (Mods.of_grown (S:=fun z=>z=w.heap.size+1) B rfl) X.o.lt.2.2);rw[HY.o];clear hc B g;have g:=(L.o.pk.cell 22).trans (bS _ _);simp only at g;go_simp;refine i.out _ _ (fun _=>g) ?_;clear i K;refine Yi 4 [8] rfl g ?_;refine Up 5 rfl (fun K i=>?_);go_simp;have J2:=aa (L.o.alloc (.cells #[.int .i64 (y:Int)] 3));have P2:=aa (jh P1.o (.cells #[.int .i64 (y:Int)] 3));clear g;have g:=(J2.o.pk.cell 22).trans (bS _ _);simp only at g;refine i.out _ _ (fun _=>g) ?_;clear i K;refine Up 6 rfl (fun K i=>?_);refine mS rfl (.tmp 53) (.tmp 57) 25 rfl Q.heap.size 3 _ 1 8 underlying25 Cw rfl (by decide) (.slice C.a j.length C.c) _ _ rfl P2.o _ _ 1 1 [.int .i64 (y:Int)] rfl (Rd.lit _ _ _ rfl (ed _) rfl) (by intro u hu;simp at hu;subst hu;rfl) (by have:=bJ.o;unfold maxLen;omega) (by have:=bJ.o;omega) J2.o.size.2 ?_;intro v' y3 ah hg cr;obtain⟨A',c',rfl,aY,bA⟩:=jK ah;have J3:=aa (J2.o.grown hg (fun q hq=>(cX P2.o q hq).1));clear aY bA g;have g:=(J3.o.pk.cell 22).trans (bS _ _);simp only at g;refine i.out _ _ (fun _=>g) ?_;clear i K;refine Yi 7 [8] rfl g ?_;have cK:=J3.o.pk.free 22;refine Up 8 rfl (fun K i=>?_);go_simp;refine i.out _ _ (fun hn=>absurd (hn 8 (by simp)) (by decide)) (mc (d:=8) (by simp) _ _ _ _ (by kernel_rfl) ?_);clear i K g;refine QB (by kernel_rfl) ?_ _;go_wp2
   go_roundg n
   case measure=>omega
   case rel=>
    obtain⟨ad,aM⟩:=bi.o.2 HA.o;refine⟨a+1,0,p,j++[(y:Int)],F,⟨A',c'⟩,au.o,fun J=>(by have:=bf.o (by first| rfl| trivial);have:=W.o;omega),fun J=>?_,⟨fun h=>(by rw[HA.o]at h;cases h),fun _=>⟨ad,aM⟩⟩,J3.o.put 22 _ (Aq {aP k V 0 l with filters:=p} {hs0 with props:=⟨A,q⟩,filters:=F} j (y:Int) A' c' C),?_,lR.snoc ah _ J3.o.lt.2.1⟩
    ·have U:=aw.o (by first| rfl| trivial);rw[List.length_append,ad];exact⟨ag _,by simp;omega⟩
    ·rw[ad,aM];exact dD _ _ _ _
  ·have HA:=aa N;have bI:Hid (k=8\/k=10):=aa (aR N);have au:Hid (lsR v k s n (fiR v k s a).2.1 (fiR v k s a).2.2 (p++[(fiR v k s a).1]) j=aJ):=aa (by
    rw[<-HL.o,ae (by have:=W.o;rintro (h| h);exact h rfl;omega),if_pos N])
   have a3:Hid ((fiR v k s a).2.2=0->a<(fiR v k s a).2.1/\(fiR v k s a).2.1<=s.size):=aa (fun h=>by have M:=vA (v:=v) bI.o (pf W.o) h;exact⟨M.1,M.2.1⟩);have bh:Hid (p.length<=1000000000000):=aa (by have U:=aw.o (by first| rfl| trivial);have M:=W.o;have h3:=g.o;omega);clear N HL;have g:=(X.o.pk.cell 23).trans (bP _ _);simp only at g
   go_wp2_with fail
   refine je (fun w'=>w'.cell? ⟨gp,23,none⟩=some (.slice F.a p.length F.c)) [9] (by kernel_rfl) ?_
   replace g:w3.drew.cell? ⟨gp,23,none⟩=some (.slice F.a p.length F.c):=g
   refine Yi 0 [9] rfl g ?_;refine Yi 1 [9] rfl g ?_;refine Yi 2 [9] rfl g ?_;refine Yi 3 [9] rfl g ?_;refine Yi 4 [9] rfl g ?_;refine Up 5 rfl (fun K i=>?_);go_simp
   go_at_call 107
   refine(SJ v k (w.heap.size+1) a s _ (X.o.drewN 1).cur bI.o).mono ?_;rintro e' y1 ⟨rfl,hc,B⟩;have L:=aa ((X.o.drewN 1).turn hc B);have P1:Hid (iE Q y1 p F):=aa ((show iE Q (w3.drewN 1) p F from bN.o).turn B X.o.lt.2.2);obtain⟨fr,bQ⟩:∃r,fiR v k s a=r:=⟨_,rfl⟩;rw[bQ]at L au a3⊢;clear hc B g bQ;obtain⟨f,a7,e7⟩:=fr;simp only[fiV]at L au a3⊢;have g:=(L.o.pk.cell 23).trans (bP _ _);simp only at g;go_simp;refine i.out _ _ (fun _=>g) ?_;clear i K;refine Up 6 rfl (fun K i=>?_);go_simp;have J2:=aa (L.o.alloc (.cells #[.string f.topic,.int .i64 f.qos,.bool f.noLocal,.bool f.asPub,.int .i64 f.handling] 48));have P2:=aa (jh P1.o (.cells #[.string f.topic,.int .i64 f.qos,.bool f.noLocal,.bool f.asPub,.int .i64 f.handling] 48));clear g;have g:=(J2.o.pk.cell 23).trans (bP _ _);simp only at g;refine i.out _ _ (fun _=>g) ?_;clear i K;refine Up 7 rfl (fun K i=>?_);refine mS rfl (.tmp 44) (.tmp 49) 26 rfl Q.heap.size 48 _ 5 40 underlying26 oP rfl (by decide) (.slice F.a p.length F.c) _ _ rfl P2.o _ _ 1 1 (fiC f) rfl (Bv _ f) (yG f) (by have:=bh.o;unfold maxLen;omega) (by have:=bh.o;omega) J2.o.size.2 ?_;intro v' y3 ah hg cr;obtain⟨A',c',rfl,aY,bA⟩:=jK ah;have J3:=aa (J2.o.grown hg (fun q hq=>(cX P2.o q hq).1));clear aY bA g;have g:=(J3.o.pk.cell 23).trans (bP _ _);simp only at g;refine i.out _ _ (fun _=>g) ?_;clear i K;refine Yi 8 [9] rfl g ?_;have cL:=J3.o.pk.free 23;refine Up 9 rfl (fun K i=>?_);go_simp;refine i.out _ _ (fun hn=>absurd (hn 9 (by simp)) (by decide)) (mc (d:=9) (by simp) _ _ _ _ (by kernel_rfl) ?_);clear i K g;refine QB (by kernel_rfl) ?_ _;go_wp2
   go_roundg n
   case measure=>omega
   case rel=>
    obtain⟨ad,aM⟩:=bi.o.1 HA.o;refine⟨a7,e7,p++[f],j,⟨A',c'⟩,C,au.o,fun J=>(by obtain⟨b1,b2⟩:=a3.o J;have:=bf.o (by first| rfl| trivial);have:=W.o;omega),fun J=>?_,⟨fun _=>⟨ad,aM⟩,fun h=>(by rw[HA.o]at h;cases h)⟩,J3.o.put 23 _ (oT {aP k V 0 l with codes:=j} {hs0 with props:=⟨A,q⟩,codes:=C} p f A' c' F),iE.snoc ah _ J3.o.lt.2.1,?_⟩
    ·obtain⟨b1,b2⟩:=a3.o J;have U:=aw.o (by first| rfl| trivial);rw[List.length_append,ad];exact⟨by simp;omega,ag _⟩
    ·rw[ad,aM];exact dD _ _ _ _
  all_goals
   have aF:=aa (L.o.res.mods (S:=fun z=>z=w.heap.size+1) (Mods.of_grown B rfl) L.o.ne.2.1);have bd:=aa (dw L.o.kept B L.o.kept.size L.o.base.2.2);have bX:=aW aF.o;have cc:Hid (∀b o,kk.codes.a=some ⟨b,o,none⟩->w.heap.size<=b):=aa (fun b o e=>by
    rcases Z with M| ⟨M,-⟩
    ·rw[M]at e;exact a4.o b o e
    ·rw[M]at e;cases e)
   clear hi Z;refine Yj 6 rfl ?_;refine Yj 7 rfl ?_;refine Uq 8 rfl (fun K i=>?_);go_simp;refine i.out _ _ ?_;clear i K;refine Uq 9 rfl (fun K i=>?_);go_simp;refine i.out _ _ ?_;clear i K;refine QB (by kernel_rfl) ?_ _;go_wp2;refine av (aI rfl _ rfl (cO aF.o _ _)) rfl ?_;rw[a6.o];exact⟨kk,rfl,bM.o _ (cJ _ _ _ _),bT bd.o bd.o.size (ac _) _ _,cc.o⟩
theorem RP(v:Int)(x:Hdr)(s:ByteArray)(w:World)(hs:s.size<=1000000000000):
  Calls prog 32 #[.int .i64 v,Cx x,.string s] w (lQ (chR v x s) w):=by
 obtain⟨k,f,n⟩:=x;have u:=aa hs;have l:Hid (chR v ⟨k,f,n⟩ s=if k<=2 then iB v k s else if k=3 then km v f s else if k<=7 then iW v k s else if k<=11 then sbR v k s else gX v k s):=aa rfl;have j:=aa (((aq w.heap.size w).alloc (ac _) (.cells #[.int .i64 k,.int .i64 f,.int .i64 n] 51)).alloc (by simp) (.cells (pkC pk0 hs0) PkT));have F:=aa ((Bk.fresh w 51 #[.int .i64 k,.int .i64 f,.int .i64 n]).alloc (.cells (pkC pk0 hs0) PkT));have h:=aa (Bk.fresh (w.alloc (.cells #[.int .i64 k,.int .i64 f,.int .i64 n] 51)) PkT (pkC pk0 hs0));have r:=F.o.cell 0;have t:=F.o.cell 1
 simp only[ay,aE,aB]at r t;have C:(w.alloc (.cells #[.int .i64 k,.int .i64 f,.int .i64 n] 51)).heap.size=w.heap.size+1:=by simp
 rw[C]at h;have I:Hid (w.heap.size<=w.heap.size+1):=aa (by omega);clear hs C;show Calls _ _ #[.int .i64 v,.agg #[.int .i64 k,.int .i64 f,.int .i64 n],.string s] _ _
 by_cases z:k<=2
 focus
  have y:Hid (chR v ⟨k,f,n⟩ s=iB v k s):=aa (by rw[l.o,if_pos (by omega)]);have L:k<=2:=by omega
  clear l z;go_enter func32,ntmps32
  go_wp2_with fail
  refine(Sl v k s _ (by have:=u.o;omega)).mono ?_;rintro e B b;obtain⟨g,rfl,d,a,c⟩:=b.plain (xy _ _ _);have q:=aa c;have m:=aa (Yf j.o a);have o:=aa d;have i:=aa (Yh h.o a);clear r t;have p:=aW i.o (iB v k s).1 g;clear d a c b;generalize iB v k s=R at*
 rotate_left
 by_cases A:k=3
 focus
  have y:Hid (chR v ⟨k,f,n⟩ s=km v f s):=aa (by rw[l.o,ae (by omega),if_pos (by omega)]);have D:2<k:=by omega
  have M:(k==3)=true:=aK.2 (by omega);clear l z A;go_enter func32,ntmps32
  go_wp2_with fail
  refine(RE v f s _ (by have:=u.o;omega)).mono ?_;rintro e B b;obtain⟨g,rfl,d,a,c⟩:=b.plain (wJ _ _ _);have q:=aa c;have m:=aa (Yf j.o a);have o:=aa d;have i:=aa (Yh h.o a);clear r t;have p:=aW i.o (km v f s).1 g;clear d a c b;generalize km v f s=R at*
 rotate_left
 by_cases E:k<=7
 focus
  have y:Hid (chR v ⟨k,f,n⟩ s=iW v k s):=aa (by rw[l.o,ae (by omega),ae (by omega),if_pos (by omega)]);have D:2<k:=by omega
  have f1:(k==3)=false:=ar.2 (by omega);have N:k<=7:=by omega
  clear l z A E;go_enter func32,ntmps32
  go_wp2_with fail
  refine(RM v k s _ (by have:=u.o;omega)).mono ?_;rintro e B b;obtain⟨g,rfl,d,a,c⟩:=b.plain (xJ _ _ _);have q:=aa c;have m:=aa (Yf j.o a);have o:=aa d;have i:=aa (Yh h.o a);clear r t;have p:=aW i.o (iW v k s).1 g;clear d a c b;generalize iW v k s=R at*
 rotate_left
 by_cases H:k<=11
 focus
  have y:Hid (chR v ⟨k,f,n⟩ s=sbR v k s):=aa (by rw[l.o,ae (by omega),ae (by omega),ae (by omega),if_pos (by omega)]);have D:2<k:=by omega
  have f1:(k==3)=false:=ar.2 (by omega);have J:7<k:=by omega
  have O:k<=11:=by omega
  clear l z A E H;go_enter func32,ntmps32
  go_wp2_with fail
  refine(SZ v k s _ u.o).mono ?_;rintro e B b;obtain⟨g,rfl,d,a,c⟩:=b.plain;have q:=aa c;have m:=aa (Yf j.o a);have o:=aa d;have i:=aa (Yh h.o a);clear r t;have p:=aW i.o (sbR v k s).1 g;clear d a c b;generalize sbR v k s=R at*
 rotate_left;have y:Hid (chR v ⟨k,f,n⟩ s=gX v k s):=aa (by rw[l.o,ae (by omega),ae (by omega),ae (by omega),ae (by omega)]);have D:2<k:=by omega
 have f1:(k==3)=false:=ar.2 (by omega);have J:7<k:=by omega
 have K:11<k:=by omega
 clear l z A E H;go_enter func32,ntmps32
 go_wp2_with fail
 refine(RH v k s _ (by have:=u.o;omega)).mono ?_;rintro e B b;obtain⟨g,rfl,d,a,c⟩:=b.plain (xw _ _ _);have q:=aa c;have m:=aa (Yf j.o a);have o:=aa d;have i:=aa (Yh h.o a);clear r t;have p:=aW i.o (gX v k s).1 g;clear d a c b;generalize gX v k s=R at*
 all_goals
  go_wp2;refine av (aI rfl _ rfl (cO i.o R.1 g)) rfl ?_;rw[y.o];have G:=bT m.o m.o.size I.o R.1 g;exact⟨g,rfl,o.o.put i.o (cJ _ _ _ _) q.o (by simp),G,q.o.mono (by simp;omega)⟩
end
end Go.Proofs.YtooikoiladioeaaGreatDoor
