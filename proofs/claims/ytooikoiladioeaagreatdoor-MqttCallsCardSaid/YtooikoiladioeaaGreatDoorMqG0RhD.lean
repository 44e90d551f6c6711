/- Parts: RhD, MqM, Laid. -/
import Derived.Test.YtooikoiladioeaaGreatDoorMqG0MqK
import Derived.Test.YtooikoiladioeaaGreatDoorMqG0RhB
import Derived.Test.YtooikoiladioeaaGreatDoorCards
import Derived.Test.YtooikoiladioeaaGreatDoorTie
import Derived.ChangeVars
import Derived.LaidLaws
import Derived.LaidHandle
import Derived.SevenTiedAt
set_option maxRecDepth 10000
set_option maxHeartbeats 8000000
namespace Go.Proofs.YtooikoiladioeaaGreatDoor
open Go.RowKit Go.Proofs.Tryz
section
attribute [local go_sem ↓] bD bF bH bI bu
attribute [local go_sem] bc aD bh bg bK bJ bd aY be aO ax cI dC dB dt dj di dA dr dp dn bW co bO bZ bX cz cy cw cu ct cC YB bS bP bR
attribute [local go_sem ↓] xS
attribute [local go_sem] um
def Tz(y:World)(R:Pk×Int)(z pz:Value)(wx:World):Prop:=∃hh g,z= .int .i64 R.2/\pz= .pointer (some ⟨g,0,none⟩)/\y.heap.size<=g/\Bk wx g PkT (pkC R.1 hh)/\PkIn wx wx.heap.size R.1 hh/\Below y.heap.size y wx/\ja y R.1 hh
theorem Rt{y w3:World}{R:Pk×Int}{hh:Hs}(hi:PkIn w3 w3.heap.size R.1 hh)(hb:Below (y.alloc (.cells (pkC pk0 hs0) PkT)).drew.heap.size (y.alloc (.cells (pkC pk0 hs0) PkT)).drew w3)(hf:ja (y.alloc (.cells (pkC pk0 hs0) PkT)).drew R.1 hh):
  (zc (.pointer (some ⟨y.heap.size,0,none⟩)) (pkV R.1 hh)).run prog w3= .ok () (dE w3 y.heap.size R.1 hh)/\Tz y R (.int .i64 R.2) (.pointer (some ⟨y.heap.size,0,none⟩)) (dE w3 y.heap.size R.1 hh):=by
 have b:Bk (y.alloc (.cells (pkC pk0 hs0) PkT)).drew y.heap.size PkT (pkC pk0 hs0):=(Bk.fresh y PkT (pkC pk0 hs0)).drewN 1;have c:=Yh b hb;have a:Below y.heap.size y (y.alloc (.cells (pkC pk0 hs0) PkT)).drew:=aV ((aq y.heap.size y).alloc (ac _) (.cells (pkC pk0 hs0) PkT)) 1;exact⟨aW c R.1 hh,hh,y.heap.size,rfl,rfl,ac _,cO c R.1 hh,hi.put c (cJ _ _ _ _) hf b.lt,bT (Yf a hb) (aC a.size hb.size) (ac _) R.1 hh,hf.mono a.size⟩
theorem Yy{y w3:World}{R:Pk×Int}{hh:Hs}(hi:PkIn w3 w3.heap.size R.1 hh)(hb:Below y.drew.heap.size y.drew w3)(hf:ja y.drew R.1 hh):
  Tz y R (.int .i64 R.2) (.pointer (some ⟨w3.heap.size,0,none⟩)) (w3.alloc (.cells (pkC R.1 hh) PkT)):=
 ⟨hh,w3.heap.size,rfl,rfl,hb.size,Bk.fresh _ _ _,hi.next ((aq _ _).alloc (ac _) _),((aV (aq y.heap.size y) 1).trans hb).alloc hb.size _,hf⟩
theorem Sf(v:Int)(s:ByteArray)(w:World)(hs:s.size<=1000000000000):Calls prog 12 #[.int .i64 v,.string s] w (tM (mqR v s) w):=by
 have J:Hid (mqR v s=if(hdR v s).2.2≠0 then(pk0,0,(hdR v s).2.2)
  else if s.size<(hdR v s).2.1+(hdR v s).1.n then(pk0,0,3)
  else if(chR v (hdR v s).1 (s.extract (hdR v s).2.1 ((hdR v s).2.1+(hdR v s).1.n))).2=0 then((chR v (hdR v s).1 (s.extract (hdR v s).2.1 ((hdR v s).2.1+(hdR v s).1.n))).1,(hdR v s).2.1+(hdR v s).1.n,0)
  else(pk0,0,if(chR v (hdR v s).1 (s.extract (hdR v s).2.1 ((hdR v s).2.1+(hdR v s).1.n))).2=3 then 5 else(chR v (hdR v s).1 (s.extract (hdR v s).2.1 ((hdR v s).2.1+(hdR v s).1.n))).2)):=aa rfl
 have HS:=aa hs;have HB:=aa ((aq w.heap.size w).alloc (ac _) (.cells (pkC pk0 hs0) PkT));have HK:=aa (Bk.fresh w PkT (pkC pk0 hs0));have t:=aa (fun W=>Q8 v s W hs);have o:Hid ((hdR v s).2.2=0->(hdR v s).1.n<=268435455/\(hdR v s).2.1<=s.size):=aa (fun h0=>by
  obtain⟨b1,b2,b3,b4,b5⟩:=kw (v:=v) (s:=s) (h:=(hdR v s).1) (a:=(hdR v s).2.1) (by rw[<-h0]);exact⟨b2,b5⟩)
 clear hs;obtain⟨⟨⟨k,f,n⟩,a,x⟩,hr⟩:∃r,hdR v s=r:=⟨_,rfl⟩;rw[hr]at J t o;simp only[Cx]at J t o;clear hr;go_enter func12,ntmps12
 go_wp2_with fail
 refine Yg (t.o _) fun w1 hb=>?_;have H:=aa (Yf HB.o hb);have M:=aa (Yh HK.o hb);clear hb t HB HK;obtain⟨y,hy⟩:∃y,w1.alloc (.cells #[.int .i64 k,.int .i64 f,.int .i64 n] 51)=y:=⟨_,rfl⟩;have j:Hid (Below w.heap.size w y):=aa (by rw[<-hy];exact H.o.alloc H.o.size _);have b:Hid (Bk y w.heap.size PkT (pkC pk0 hs0)):=aa (by rw[<-hy];exact M.o.alloc _);obtain⟨C,X⟩:∃C,w1.heap.size=C:=⟨_,rfl⟩;have m:Hid (Bk y C 51 #[.int .i64 k,.int .i64 f,.int .i64 n]):=aa (by rw[<-hy,<-X];exact Bk.fresh w1 _ _);have aI:Hid (w.heap.size<C):=aa (by rw[<-X];exact M.o.lt)
 go_upto_region 2 with fail
 clear hy X H M;clear w1;have Z:=aW b.o pk0 hs0;have I:Hid (Below w.heap.size w (dE y w.heap.size pk0 hs0)):=aa (bT j.o j.o.size (ac _) pk0 hs0);have N:=aa (cO b.o pk0 hs0)
 by_cases G:x=0
 rotate_left
 ·have d:Hid (mqR v s=(pk0,0,x)):=aa (by rw[J.o,if_pos G]);have e0:(x !=0)=true:=aA.2 G;clear G;go_wp2;refine av (eZ rfl _ rfl N.o) rfl ?_;exact gR d.o I.o
 obtain⟨b2,b3⟩:=o.o G;have K:Hid (mqR v s=if s.size<a+n then(pk0,0,3)else if(chR v ⟨k,f,n⟩ (s.extract a (a+n))).2=0 then((chR v ⟨k,f,n⟩ (s.extract a (a+n))).1,a+n,0)
  else(pk0,0,if(chR v ⟨k,f,n⟩ (s.extract a (a+n))).2=3 then 5 else(chR v ⟨k,f,n⟩ (s.extract a (a+n))).2)):=aa (by rw[J.o,ae (fun z=>z G)])
 subst G;have HN:=aa b2;have HA:=aa b3
 have bc:=HS.o;have c0:=m.o.cell 0;have c1:=m.o.cell 1;have c2:=m.o.cell 2
 simp only[ay,aE,aB]at c0 c1 c2;clear J o
 by_cases B:s.size<a+n
 ·have d:Hid (mqR v s=(pk0,0,3)):=aa (by rw[K.o,if_pos B]);have d1:(s.size:Int) - (a:Int)<(n:Int):=by omega
  have d2: -9223372036854775808<=(s.size:Int) - (a:Int):=by omega
  have d3:(s.size:Int) - (a:Int)<=9223372036854775807:=by omega
  clear B;go_wp2;refine av (eZ rfl _ rfl N.o) rfl ?_;exact gR d.o I.o
 have c:Hid (mqR v s=if(chR v ⟨k,f,n⟩ (s.extract a (a+n))).2=0 then((chR v ⟨k,f,n⟩ (s.extract a (a+n))).1,a+n,0)
  else(pk0,0,if(chR v ⟨k,f,n⟩ (s.extract a (a+n))).2=3 then 5 else(chR v ⟨k,f,n⟩ (s.extract a (a+n))).2)):=aa (by rw[K.o,ae B])
 have d1:(n:Int)<=(s.size:Int) - (a:Int):=by omega
 have L:Hid (a+n<=s.size):=aa (by omega);have d2: -9223372036854775808<=(s.size:Int) - (a:Int):=by omega
 have d3:(s.size:Int) - (a:Int)<=9223372036854775807:=by omega
 have bb:wrap64 ((s.size:Int) - (a:Int))=(s.size:Int) - (a:Int):=by unfold wrap64;omega
 have a3:decide ((s.size:Int) - (a:Int)<(n:Int))=false:=ah (by omega);have v1:(0:Int)<=(a:Int):=by omega
 have v2:(a:Int)<=(a:Int)+(n:Int):=by omega
 have v3:(a:Int)+(n:Int)<=(s.size:Int):=by omega
 have v4:(a:Int)+(n:Int)<=9223372036854775807:=by omega
 clear B K
 go_upto_region 6 with fail
 clear bb a3;obtain⟨q,hq⟩:∃q,a+n=q:=⟨_,rfl⟩;have bn:IntKind.i64.wrap ((a:Int)+(n:Int))=(q:Int):=by rw[aQ];omega
 have bh:wrap64 ((a:Int)+(n:Int))=(q:Int):=by unfold wrap64;omega
 rw[hq]at c L;clear v2 v3 v4;have v2:(a:Int)<=(q:Int):=by omega
 have v3:(q:Int)<=(s.size:Int):=by have:=L.o;omega
 clear hq;obtain⟨T,hT⟩:∃T,s.extract a q=T:=⟨_,rfl⟩;have ai:Hid (T.size<=1000000000000):=aa (by rw[<-hT,aj];have:=HS.o;omega);have u:=aa (fun W=>RP v ⟨k,f,n⟩ T W ai.o);simp only[Cx]at u;rw[hT]at c;obtain⟨R,hR⟩:∃R,chR v ⟨k,f,n⟩ T=R:=⟨_,rfl⟩;rw[hR]at c u;clear hR Z d1 d2 d3 bc ai;have p:=aa (m.o.alloc (.cells (pkC pk0 hs0) PkT));have a0:=p.o.cell 0;have a1:=p.o.cell 1;have a2:=p.o.cell 2
 simp only[ay,aE,aB]at a0 a1 a2
 go_cut [9,10] (fun z pz i=>Tz y R z pz i)
 case first=>
  go_region_law ((go_simp;go_at_call 32;refine(u.o _).mono ?_;rintro e w3 ⟨l,rfl,Y,U,V⟩;(first| (have bi:=by(with_reducible exact(Rt Y U V).1)) | skip);(first| (have au:=by(with_reducible exact(Rt Y U V).2)) | (have au:=by(with_reducible exact Yy Y U V)))))
  all_goals
   go_wp2
   go_meet
   case rel=>with_reducible exact au
 obtain⟨l,g,rfl,rfl,hg,ap,ao,A,an⟩:=hcut;obtain⟨i,bd⟩:∃x,x=wc:=⟨_,rfl⟩;subst bd;have KX:=aa ap;have IX:=aa ao;have FX:=aa an
 have am:=aa (Yh m.o A);have Q:=aa (Yh b.o A);have BX:=aa (Yf j.o A);have GX:Hid (w.heap.size<g):=aa (ch b.o.lt hg);have O:=aa b.o.lt;have ba:=aW Q.o pk0 hs0;have a7:(kZ (.pointer (some ⟨g,0,none⟩))).run prog i.drew= .ok (pkV R.1 l) i.drew:=cf (KX.o.drewN 1);have Z:(zc (.pointer (some ⟨w.heap.size,0,none⟩)) (pkV R.1 l)).run prog i.drew= .ok () (dE i.drew w.heap.size R.1 l):=aW (Q.o.drewN 1) R.1 l;have e2:i.drew.cell? ⟨C,2,none⟩=some (.int .i64 n):=(am.o.drewN 1).cell 2;have aL:=aa ((am.o.drewN 1).mods (S:=fun z=>z=w.heap.size) (Mods.of_grown (cJ (i.drewN 1) w.heap.size R.1 l) rfl) (by have:=aI.o;omega));have p2:(dE i.drew w.heap.size R.1 l).cell? ⟨C,2,none⟩=some (.int .i64 n):=aL.o.cell 2;clear hg ap ao A an c0 c1 c2 a0 a1 a2 u b j I N v1 v2 v3 p m b2 b3;obtain⟨P,E⟩:=R;dsimp only at c KX IX FX ba a7 Z p2⊢
 by_cases F:E=0
 ·have d:Hid (mqR v s=(P,q,0)):=aa (by rw[c.o,if_pos F]);subst F
  go_wp2_with fail
  go_region_law (fail)
  all_goals
   go_wp2;refine av (eZ rfl _ rfl (cO (Q.o.drewN 1) P l)) rfl ?_;exact zF d.o ((IX.o.drewN 1).put (Q.o.drewN 1) (cJ _ _ _ _) FX.o O.o) (bT (aV BX.o 1) (aC BX.o.size (ac _)) (ac _) _ _) (FX.o.mono (pf O.o))
 ·have ak:Hid (mqR v s=(pk0,0,if E=3 then 5 else E)):=aa (by rw[c.o,ae F]);have af:=aa (bT BX.o BX.o.size (ac _) pk0 hs0);have ag:=aa (cO Q.o pk0 hs0)
  by_cases D:E=3
  ·have d:Hid (mqR v s=(pk0,0,5)):=aa (by rw[ak.o,if_pos D]);have e3:(E==3)=true:=aK.2 D;clear D F;go_wp2;refine av (eZ rfl _ rfl ag.o) rfl ?_;exact gR d.o af.o
  ·have d:Hid (mqR v s=(pk0,0,E)):=aa (by rw[ak.o,ae D]);have e3:(E==3)=false:=ar.2 D;have e9:(E !=0)=true:=aA.2 F;clear D F;go_wp2;refine av (eZ rfl _ rfl ag.o) rfl ?_;exact gR d.o af.o
theorem UY(v:Int)(s:ByteArray)(w:World)(hs:s.size<=10000000000):Calls prog 14 #[.int .i64 v,.string s] w (Vs (UX v s) w):=by
 have y:=aa hs;obtain⟨k,l⟩:∃R,UX v s=R:=⟨_,rfl⟩;rw[l];have O:Hid (Ux v s (s.size+1) 0 []=k):=aa l;have ad:=aa (RowI.start w w);have af:=aa (fun(a:Nat) W=>Sf v (s.extract a s.size) W (by rw[aj];have:=y.o;omega));clear hs l;go_enter func14,ntmps14;go_wp2
 go_loopw [7,8] (fun lv U wr=>∃(A:Option Addr) (n c:Nat) (L:List (Pk×Hs)) (a f:Nat),lv= .slice A n c/\U= .int .i64 a/\RowI w wr A n c L/\Below w.heap.size w wr/\n<=a/\a<=s.size/\s.size<a+f/\Ux v s f a (L.map Prod.fst)=k) (fun _ U _=>s.size+1- (intOf U).toNat)
 case atStart=>exact⟨none,0,0,[],0,s.size+1,rfl,rfl,ad.o,aq _ _,ac _,ag _,by omega,O.o⟩
 case round=>
  obtain⟨A,n,c,L,a,f,rfl,rfl,hI,hB,h1,h2,d,hF⟩:=hrel;obtain⟨f,rfl⟩:∃f',f=f'+1:=⟨f- 1,by omega⟩;rw[UD]at hF;have I0:=aa hI;have V:=aa hB;have F:=aa h1;have t:=aa h2;have ab:=aa d;have p:=aa hF
  clear hI hB h1 h2 d hF;have h:=af.o a wr;have j:=aa (Ch (v:=v) (s:=s.extract a s.size));rw[aj]at j;obtain⟨⟨P,q,E⟩,hR⟩:∃R,mqR v (s.extract a s.size)=R:=⟨_,rfl⟩;rw[hR]at p j h;dsimp only at p j;have b1:(0:Int)<=(a:Int):=by omega
  have b2:(a:Int)<=(s.size:Int):=by have:=t.o;omega
  have X:=aa h;clear hR h
  go_wp2_with fail
  refine X.o.mono ?_;rintro e w1 hO;obtain⟨b,rfl,M,m,K⟩:=hO;have I1:=aa (I0.o.below m);have N:=aa (Yf V.o m);have S:=aa M;have Y:=aa K;have S1:=aa m.size
  clear M m K X;dsimp only at S Y⊢;have G:=aa (I1.o.below ((aq _ _).alloc (ac _) (.cells (pkC P b) PkT)));have r:=aa (N.o.alloc N.o.size (.cells (pkC P b) PkT));have P2:=aa (S.o.next ((aq _ _).alloc (ac _) (.cells (pkC P b) PkT)))
  by_cases d:E=3
  ·have Q:Hid ((L.map Prod.fst,a,0)=k):=aa (by rw[<-p.o,if_pos d]);have i:Hid (n<=10000000000):=aa (by have:=F.o;have:=t.o;have:=y.o;omega);subst d;go_wp2;go_ret3;exact UE G.o r.o Q.o i.o
  by_cases I:E=0
  rotate_left
  ·have Q:Hid ((L.map Prod.fst,a,E)=k):=aa (by rw[<-p.o,ae d,if_pos I]);have i:Hid (n<=10000000000):=aa (by have:=F.o;have:=t.o;have:=y.o;omega);have e3:(E==3)=false:=ar.2 d;have e0:(E !=0)=true:=aA.2 I;clear d I;go_wp2;go_ret3;exact UE G.o r.o Q.o i.o
  subst I;have Z:Hid (Ux v s f (a+q) ((L++[(P,b)]).map Prod.fst)=k):=aa (by
   have:=p.o;rw[ae d,ae (by decide)]at this;rw[Ii];exact this)
  obtain⟨q1,q2⟩:=j.o rfl;have u:Hid (2<=q/\a+q<=s.size):=aa (by have:=t.o;omega);have H:=aa (G.o.below ((aq _ _).alloc (ac _) (.cells (pkC P b) PkT)));have D:=aa (r.o.alloc r.o.size (.cells (pkC P b) PkT));have P3:=aa (P2.o.next ((aq _ _).alloc (ac _) (.cells (pkC P b) PkT)));have R3:=aa (Fs (w1.alloc (.cells (pkC P b) PkT)) P b (g:=w1.heap.size+1) (by simp));have z:wrap64 ((a:Int)+(q:Int))=((a+q:Nat):Int):=by have:=y.o;have:=u.o;unfold wrap64;omega
  have i:Hid (n+1<=100000000000):=aa (by have:=F.o;have:=t.o;have:=y.o;omega);clear d p j q1 q2 I1 G N r S P2
  go_wp2_with (at_builtin;refine oE rfl (.tmp 30) (.tmp 32) rfl (w0:=w) (A:=A) (n:=n) (c:=c) (L:=L) rfl H.o.row D.o.size _ [(P,b)] 1 1 _ rfl rfl (by decide) R3.o i.o ?_;intro g c' w3 C B J ax)
  have I4:=aa (H.o.more C B J (fun x T=>by rw[gA.1 T];exact P3.o) (fun x T g o e=>by rw[gA.1 T];exact Y.o.apart (I0.o.row.block e).2));have B4:=aa (kz D.o B D.o.size (fun g hg=>(H.o.row.own hg).1));clear C B J ax H D P3 R3
  go_roundw
  case rel=>exact⟨some ⟨g,0,none⟩,n+1,c',L++[(P,b)],a+q,f,rfl,by rw[z],I4.o,B4.o,by have:=F.o;have:=u.o;omega,u.o.2,by have:=ab.o;have:=u.o;omega,Z.o⟩
  case measure=>
   rw[z];simp only[intOf,dN];have:=u.o;omega
end
section
attribute [local go_sem ↓] bD bF bH bI bu
attribute [local go_sem] bc aD bh bg bK bJ bd aY be aO ax cI dC dB dt dj di dA dr dp dn bW co bO bZ bX cz cy cw cu ct cC YB bS bP bR
theorem Vf{v:Int}{s:ByteArray}(hs:s.size<=1000000000000):∀(f a:Nat) (l:List Pk),(∀p∈l,PkOk p)->∀p∈(Ux v s f a l).1,PkOk p
 | 0,a,l,h=>h
 | f+1,a,l,h=>by
   rw[UD];split
   ·exact h
   split
   ·exact h
   refine Vf hs f _ _ ?_;intro p hp;rcases cj.1 hp with hp| hp
   ·exact h p hp
   ·rw[gA.1 hp];exact En (by rw[aj];omega)
theorem UR(v:Int)(p:Pk)(h:Hs)(s:ByteArray)(w:World)(ip:PkIn w w.heap.size p h)(ok:PkOk p):
  Calls prog 3 #[.int .i64 v,pkV p h,.string s] w fun e w'=>e= .returned (.bool true)/\Below w.heap.size w w':=by
 have r:=aa ok;have S0:=aa ((St.start w).push ip);clear ip ok;go_enter func3,ntmps3
 go_wp2_with fail
 refine Yg (Vg _) fun w1 a=>?_;have I:=aa (S0.o.below a);clear a
 have k:=I.o.ld 0 rfl
 go_wp2_with fail
 refine Yg (Mw p h _ (I.o.into 0 rfl) r.o) fun w2 a=>?_;have G:=aa (I.o.below a);clear a k
 cases hL:Ie p
 ·go_wp2;go_ret;exact⟨rfl,G.o.kept⟩
 have C:=aa (LD v hL);have z:=aa (Mv hL);clear hL
 by_cases V:2000<s.size
 ·have d2:(2000:Int)<(s.size:Int):=by omega
  clear V;go_wp2;go_ret;exact⟨rfl,G.o.kept⟩
 have d2:(s.size:Int)<=2000:=by omega
 have A:Hid (s.size<=2000):=aa (by omega);clear V S0 I;have k:=G.o.ld 0 rfl
 go_wp2_with fail
 refine(VB p h _ (G.o.into 0 rfl) z.o.1 z.o.2.1 z.o.2.2.1 z.o.2.2.2).mono ?_;rintro e w3 ⟨k3,rfl,n,a⟩;have I3:=aa n;have S3:=aa (G.o.below a);clear a k n
 go_wp2_with fail
 refine Yg (UI v p k3 _ I3.o r.o C.o) fun w4 a=>?_;have J:=aa (S3.o.below a);clear a I3
 obtain⟨B,hB⟩:∃B,mqB v p=B:=⟨_,rfl⟩;have H:=aa hB;rw[hB];clear hB;obtain⟨X,E⟩:=B;have aj:Hid (mqE v p=E):=aa (by rw[<-Qo,H.o]);simp only;have k:=J.o.ld 0 rfl
 go_wp2_with fail
 refine Yg (Kg v p h _ (J.o.into 0 rfl) r.o C.o) fun w5 a=>?_;have K:=aa (J.o.below a);clear a k
 rw[H.o];simp only;have k:=K.o.ld 0 rfl
 go_wp2_with fail
 refine Yg (Vq v p h _ (K.o.into 0 rfl) r.o C.o) fun w6 a=>?_;have L:=aa (K.o.below a);clear a k
 rw[H.o];simp only;have k:=L.o.ld 0 rfl
 go_wp2_with fail
 refine Yg (UQ v p h _ (L.o.into 0 rfl) r.o C.o) fun w7 a=>?_;have S7:=aa (L.o.below a);clear a k
 rw[H.o];simp only;generalize X.size=nX at*
 go_wp2_with fail
 refine(wS v s _ (by have:=A.o;omega)).mono ?_;rintro e w8 f;have j:=aa (En (v:=v) (s:=s) (by have:=A.o;omega));obtain⟨R,u⟩:∃R,mqR v s=R:=⟨_,rfl⟩;rw[u]at f j;have HR:=aa u;clear u
 obtain⟨c,q,g⟩:=R;obtain⟨k6,rfl,n,a,-⟩:=f;have Y:=aa ((S7.o.below a).push n);clear n a;simp only at Y j⊢
 go_wp2_with fail
 refine(Sf v s _ (by have:=A.o;omega)).mono ?_;rintro e w9 f;rw[HR.o]at f;obtain⟨k7,rfl,n,a,-⟩:=f;have Z:=aa ((Y.o.below a).push n);clear n a S3 J K L S7 Y;simp only at Z⊢
 go_wp2_with fail
 refine(Vy v s _ (by have:=A.o;omega)).mono ?_;rintro e aS f;have i:Hid (∀p∈(UX v s).1,PkOk p):=aa (Vf (by have:=A.o;omega) _ _ _ (by simp));obtain⟨R,u⟩:∃R,UX v s=R:=⟨_,rfl⟩;rw[u]at f i;have an:=aa u;clear u
 obtain⟨l,zt,t⟩:=R;obtain⟨A1,n1,c1,L1,rfl,T,O,a,-,Q⟩:=f;have N:=aa (Z.o.below a);have RA:=aa T;have D:=aa O;have ak:=aa Q
 clear T O a Q;simp only at D i⊢
 go_wp2_with fail
 refine(UY v s _ (by have:=A.o;omega)).mono ?_;rintro e o f;rw[an.o]at f;obtain⟨A2,n2,c2,L2,rfl,U,P,a,-,S⟩:=f;have b:=aa (N.o.below a);have av:=aa (RA.o.below a);have RB:=aa U;have F:=aa P;have am:=aa S
 clear U P a S RA Z N;simp only at F⊢
 go_wp2_with fail
 have q0:=jw (W:=o) (fun x m=>ws c c k6 k7 x ((b.o.below m).into 1 rfl) ((b.o.below m).into 2 rfl) j.o.len j.o.len);rw[au rfl]at q0;have q1:=jw (W:=o) (fun x m=>uh A1 A2 n1 n2 c1 c2 L1 L2 x (av.o.below m) (RB.o.below m) (fun y hy=>(i.o y.1 (by rw[<-D.o];exact List.mem_map_of_mem hy)).len) (fun y hy=>(i.o y.1 (by rw[<-F.o];exact List.mem_map_of_mem hy)).len) (by have:=ak.o;omega) (by have:=am.o;omega));rw[au (show L1.map Prod.fst=L2.map Prod.fst by rw[D.o,F.o])]at q1;have q2:=jw (W:=o) (fun x m=>Vd v p h x ((b.o.below m).into 0 rfl) r.o C.o);have q3:=jw (W:=o) (fun x m=>UO v p h x ((b.o.below m).into 0 rfl) r.o C.o);rw[aj.o]at q2 q3;have l0:=qp (b.o.bk 0 rfl);have l1:=qp (b.o.bk 1 rfl);have l2:=qp (b.o.bk 2 rfl);have M:=aa (fun d os=>b.o.kept.trans ((below_regrown o d os).mono b.o.kept.size));refine wp_region_quiet_below (by as_aux_lemma=>kernel_rfl) (Tk (by as_aux_lemma=>kernel_rfl)) ?_
 repeat (go_big_quiet_step (first| with_reducible exact q0 _ _| with_reducible exact q1 _ _| with_reducible exact q2 _ _| with_reducible exact q3 _ _))
 refine kE ?_;intro _ aA;obtain⟨⟨dq,osq⟩,ad⟩:=aA;subst ad;have KF:=aa (M.o dq osq);clear q0 q1 q2 q3 l0 l1 l2 M;generalize Sort.grow (redrawn _ dq) osq=wq at*;go_wp2;go_ret;exact⟨rfl,KF.o⟩
end
end Go.Proofs.YtooikoiladioeaaGreatDoor
namespace Go.Proofs.YtooikoiladioeaaGreatDoor
open Go.ChangeShapes Go.WideShapes Go.ChangeAt Go.RowKit
open Go.Proofs.Tryz
def vh(c:Array Value):Obj->Obj
 | .cells _ t frozen=>.cells c t frozen
 | o=>o
def firstCells:Array Value:=(Go.Pinned.utf8FirstZ.map fun(n:Nat)=>Value.int .u8 n).toArray
def wI:Array Value:=#[.int .u8 128,.int .u8 191,.int .u8 160,.int .u8 191,.int .u8 128,.int .u8 159,.int .u8 144,.int .u8 191,.int .u8 128,.int .u8 143,
 .int .u8 0,.int .u8 0,.int .u8 0,.int .u8 0,.int .u8 0,.int .u8 0,.int .u8 0,.int .u8 0,.int .u8 0,.int .u8 0,.int .u8 0,.int .u8 0,.int .u8 0,.int .u8 0,.int .u8 0,.int .u8 0,.int .u8 0,.int .u8 0,.int .u8 0,.int .u8 0,.int .u8 0,.int .u8 0]
noncomputable def l7(os:Os):World:=
 {World.holding prog os ⟨#[],#[],[]⟩with heap:=((World.holding prog os ⟨#[],#[],[]⟩).heap.modify 1 (vh firstCells)).modify 2 (vh wI)}
theorem qu(os:Os)(args:Array Value):laidMetH prog [("unicode/utf8.acceptRanges",Rows.laid_unicode_utf8_acceptRanges),("unicode/utf8.first",Rows.laid_unicode_utf8_first)] ((l7 os).forCall (fun _ _=>0) ⟨#[],args,[]⟩).memory:=
 laidMetH_of_parts (laidMet_of_run' 8 (by kernel_rfl) (by kernel_rfl)) (by kernel_rfl)
end Go.Proofs.YtooikoiladioeaaGreatDoor
