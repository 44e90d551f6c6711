/- Parts: MsB, MsD, MsP, MsQ, MsE, MsC, OpenK, MqH. -/
import Derived.Test.YtemooicddjimbaaGreatDoorTlG0PkR
set_option maxRecDepth 10000
set_option maxHeartbeats 8000000
namespace Go.Proofs.YtemooicddjimbaaGreatDoor
open Go.RowKit Go.Proofs.Tryz
section
attribute [local go_sem ↓] bD bF bH bI bu
attribute [local go_sem] bc aD bh bg bK bJ bd aY be aO ax cI dC dB dt dj di dA dr dp dn bW co YK bZ YM cz cy cw cu YL YP YB bS bP bR
abbrev SmT:TypeId:=79
def smC(v most:Int)(K:Option Addr)(n c a k:Nat)(e:Int):Array Value:=#[.int .i64 v,.int .i64 most,.slice K n c,.int .i64 a,.int .i64 k,.int .i64 e]
def hdC(k f n:Int):Array Value:=#[.int .i64 k,.int .i64 f,.int .i64 n]
def Gs(b:Bool)(v:Value):Sem Value:=Instr.alloc 88 b v
def AY(a v:Value):Sem Unit:=Instr.storeAt 88 a v
theorem DJ(b:Bool)(v:Value):Instr.alloc 88 b v=Gs b v:=rfl
theorem DH(a v:Value):Instr.storeAt 88 a v=AY a v:=rfl
theorem Br(w:World):(Gs true (.tuple #[])).run prog w= .ok (.pointer (some ⟨w.heap.size,0,none⟩)) (w.alloc (.cells (hdC 0 0 0) 88)):=by kernel_rfl
theorem Ez:(prog.info? 88).map (·.size)=some 3:=by kernel_rfl
theorem AR{w:World}{g:Nat}{k f n:Int}(hb:Bk w g 88 (hdC k f n)):w.there g 0 3:=fun j a=>by
 rw[bV,hb.cell,hb.free];refine⟨?_,rfl⟩;rw[eL (by exact a)];rfl
def rR(w:World)(g:Nat)(k f n:Int):World:=w.setCells g 0 (hdC k f n).toList
theorem uj{w:World}{g:Nat}{k0 f0 n0:Int}(hb:Bk w g 88 (hdC k0 f0 n0))(k f n:Int):(AY (.pointer (some ⟨g,0,none⟩)) (.agg #[.int .i64 k,.int .i64 f,.int .i64 n])).run prog w= .ok () (rR w g k f n):=by
 unfold AY;exact run_storeAt_mid w g 0 88 (hdC k f n) (AR hb) Ez (by simp[hdC,Value.oneCell'])
theorem BF{w:World}{g:Nat}{k0 f0 n0:Int}(hb:Bk w g 88 (hdC k0 f0 n0))(k f n:Int):Bk (rR w g k f n) g 88 (hdC k f n):=((hb.put 0 (.int .i64 k)).put 1 (.int .i64 f)).put 2 (.int .i64 n)
theorem uL(w:World)(k0 f0 n0 k f n:Int):rR (w.alloc (.cells (hdC k0 f0 n0) 88)) w.heap.size k f n=w.alloc (.cells (hdC k f n) 88):=by
 unfold rR;rw[io,qa (cs:=hdC k0 f0 n0) (ds:=hdC k f n) rfl]
theorem pR(w:World)(k f n:Int):(AY (.pointer (some ⟨w.heap.size,0,none⟩)) (.agg #[.int .i64 k,.int .i64 f,.int .i64 n])).run prog (w.alloc (.cells (hdC 0 0 0) 88))= .ok () (w.alloc (.cells (hdC k f n) 88)):=by
 rw[uj (Bk.fresh w 88 (hdC 0 0 0)),uL]
attribute [local go_sem ↓] DJ DH
attribute [local go_sem] Br pR
def Gb(w:World)(h:Hdr)(a:Nat)(x:Int)(pz az ez:Value)(wx:World):Prop:=∃g,pz= .pointer (some ⟨g,0,none⟩)/\az= .int .i64 a/\ez= .int .i64 x/\Bk wx g 88 (hdC h.k h.f h.n)/\Below w.heap.size w wx
theorem vW{w w3:World}(h:Hdr)(a:Nat)(x:Int)(hb:Below (w.alloc (.cells (hdC 0 0 0) 88)).drew.heap.size (w.alloc (.cells (hdC 0 0 0) 88)).drew w3):
  (AY (.pointer (some ⟨w.heap.size,0,none⟩)) (.agg #[.int .i64 h.k,.int .i64 h.f,.int .i64 h.n])).run prog w3= .ok () (rR w3 w.heap.size h.k h.f h.n)/\Gb w h a x (.pointer (some ⟨w.heap.size,0,none⟩)) (.int .i64 a) (.int .i64 x) (rR w3 w.heap.size h.k h.f h.n):=by
 have b:Below w.heap.size w (w.alloc (.cells (hdC 0 0 0) 88)).drew:=aV ((aq w.heap.size w).alloc (ac _) _) 1;have e:=Yf b hb;have c:Bk (w.alloc (.cells (hdC 0 0 0) 88)).drew w.heap.size 88 (hdC 0 0 0):=(Bk.fresh w _ _).drewN 1;have d:=Yh c hb;exact⟨uj d _ _ _,w.heap.size,rfl,rfl,rfl,BF d _ _ _,((e.setCell (ac _) _).setCell (ac _) _).setCell (ac _) _⟩
theorem yS{w w3:World}(h:Hdr)(a:Nat)(x:Int)(hb:Below w.drew.heap.size w.drew w3):
  Gb w h a x (.pointer (some ⟨w3.heap.size,0,none⟩)) (.int .i64 a) (.int .i64 x) (w3.alloc (.cells (hdC h.k h.f h.n) 88)):=
 ⟨w3.heap.size,rfl,rfl,rfl,Bk.fresh _ _ _,((aV (aq w.heap.size w) 1).trans hb).alloc hb.size _⟩
theorem pM(v most:Int)(g:Nat)(K:Option Addr)(n c a k:Nat)(e:Int)(t:ByteArray)(w0 w:World)(hb:Bk w g SmT (smC v most K n c a k e))(hk:Kp w0 w K n c (ls t))(ht:t.size<=1000000000000):
  Calls prog 40 #[.pointer (some ⟨g,0,none⟩)] w fun e' w'=>e'= .returned (.tuple #[.int .i64 ((smZ v t).1:Nat),.int .i64 (smZ v t).2])/\Below w.heap.size w w':=by
 have HT:=aa ht;have N:=aa hb;have Q:=aa hk
 have HL:Hid (t.size=n):=aa (by rw[<-aN];exact hk.len);have H:Hid (smZ v t=if(hdR v (t.extract 0 (min t.size 5))).2.2≠0 then(0,(hdR v (t.extract 0 (min t.size 5))).2.2)
  else((hdR v (t.extract 0 (min t.size 5))).2.1+(hdR v (t.extract 0 (min t.size 5))).1.n,0)):=aa rfl
 obtain⟨m,Y⟩:∃m,min t.size 5=m:=⟨_,rfl⟩;rw[Y]at H;have B:Hid (m<=n/\m<=5/\(m=n\/m=5)):=aa (by have:=HL.o;omega);have V:Hid (∀W,Below w.heap.size w W->(convert 77 9 (.slice K m c)).run prog W= .ok (.string (t.extract 0 m)) W):=aa (fun W J=>by
  have X:=((Q.o.below J).rd).cut_to B.o.1;rw[Y8,lM]at X;have h2:=ni (P:=prog) 77 9 U8 underlying77 underlying5 underlying9 c X;rw[h2]
  congr 2
  apply eX;rw[jo];have:=Ym t 0 m;rw[bV,Yl]at this;exact this.symm)
 have A:=aa (fun W=>qy v (t.extract 0 m) W (by rw[aj];have:=B.o;omega));clear hb hk ht Y;have I:Hid ((hdR v (t.extract 0 m)).2.2=0->(hdR v (t.extract 0 m)).1.n<=268435455/\(hdR v (t.extract 0 m)).2.1<=5):=aa (fun C=>by
  obtain⟨b1,b2,b3,b4,b5⟩:=kw (v:=v) (s:=t.extract 0 m) (h:=(hdR v (t.extract 0 m)).1) (a:=(hdR v (t.extract 0 m)).2.1) (by rw[<-C]);rw[aj]at b5;have:=B.o;exact⟨b2,by omega⟩)
 obtain⟨⟨⟨hk,L,y⟩,F,G⟩,Z⟩:∃r,hdR v (t.extract 0 m)=r:=⟨_,rfl⟩;rw[Z]at H A I;dsimp only at I;simp only[Cx]at H A;clear Z;have E:Hid (Below w.heap.size w w.drew):=aa (aV (aq w.heap.size w) 1);have D:Hid (Below w.heap.size w (w.alloc (.cells (hdC 0 0 0) 88)).drew):=aa (aV ((aq w.heap.size w).alloc (ac _) _) 1);have q:Hid (∀W,Below w.heap.size w W->W.cell? ⟨g,0,none⟩=some (.int .i64 v)/\W.cell? ⟨g,2,none⟩=some (.slice K n c)/\(convert 77 9 (.slice K m c)).run prog W= .ok (.string (t.extract 0 m)) W):=aa (fun W J=>⟨(Yh N.o J).cell 0,(Yh N.o J).cell 2,V.o W J⟩);have ab:=fun W=>Bi (P:=prog) (t:=77) (e:=U8) (s:=1) underlying77 (fun W=>by kernel_rfl) K n c m (aC B.o.1 Q.o.cap) W;have T:min (n:Int) 5=(m:Int):=by have:=B.o;omega
 go_enter func40,ntmps40
 go_wp2_with fail
 go_cut [4,5,6] (fun pz az ez wx=>Gb w ⟨hk,L,y⟩ F G pz az ez wx)
 case first=>
  refine je (fun w'=>w'.cell? ⟨g,0,none⟩=some (.int .i64 v)/\w'.cell? ⟨g,2,none⟩=some (.slice K n c)/\(convert 77 9 (.slice K m c)).run prog w'= .ok (.string (t.extract 0 m)) w') [] (by kernel_rfl) ?_;have d:=q.o w.drew E.o;refine Uo (i:=0) (v:=?va0) [] rfl (Or.inl ⟨by rfl,?ha0⟩) d ?ra0
  case ha0=>intro w' b;(try dsimp only at b);obtain⟨j,l,o⟩:=b;go_simp;try with_reducible rfl
  refine Uo (i:=1) (v:=?va1) [] rfl (Or.inl ⟨by rfl,?ha1⟩) d ?ra1
  case ha1=>intro w' b;(try dsimp only at b);obtain⟨j,l,o⟩:=b;go_simp;try with_reducible rfl
  refine Uo (i:=2) (v:=?va2) [] rfl (Or.inl ⟨by rfl,?ha2⟩) d ?ra2
  case ha2=>intro w' b;(try dsimp only at b);obtain⟨j,l,o⟩:=b;go_simp;try with_reducible rfl
  refine Uo (i:=3) (v:=?va3) [] rfl (Or.inl ⟨by rfl,?ha3⟩) d ?ra3
  case ha3=>intro w' b;(try dsimp only at b);obtain⟨j,l,o⟩:=b;go_simp;try with_reducible rfl
  refine Uo (i:=4) (v:=?va4) [] rfl (Or.inl ⟨by rfl,?ha4⟩) d ?ra4
  case ha4=>intro w' b;(try dsimp only at b);obtain⟨j,l,o⟩:=b;go_simp;try with_reducible rfl
  refine Uo (i:=5) (v:=?va5) [] rfl (Or.inl ⟨by rfl,?ha5⟩) d ?ra5
  case ha5=>intro w' b;(try dsimp only at b);obtain⟨j,l,o⟩:=b;go_simp;try with_reducible rfl
  refine Uo (i:=6) (v:=?va6) [] rfl (Or.inl ⟨by rfl,?ha6⟩) d ?ra6
  case ha6=>intro w' b;(try dsimp only at b);obtain⟨j,l,o⟩:=b;go_simp;try with_reducible rfl
  refine Uo (i:=7) (v:=?va7) [] rfl (Or.inl ⟨by rfl,?ha7⟩) d ?ra7
  case ha7=>intro w' b;(try dsimp only at b);obtain⟨j,l,o⟩:=b;go_simp;try with_reducible rfl
  refine Uo (i:=8) (v:=?va8) [] rfl (Or.inl ⟨by rfl,?ha8⟩) d ?ra8
  case ha8=>intro w' b;(try dsimp only at b);obtain⟨j,l,o⟩:=b;go_simp;try with_reducible rfl
  refine Uo (i:=9) (v:=?va9) [] rfl (Or.inl ⟨by rfl,?ha9⟩) d ?ra9
  case ha9=>intro w' b;(try dsimp only at b);obtain⟨j,l,o⟩:=b;go_simp;try with_reducible rfl
  refine Uo (i:=10) (v:=?va10) [] rfl (Or.inl ⟨by rfl,?ha10⟩) d ?ra10
  case ha10=>intro w' b;(try dsimp only at b);obtain⟨j,l,o⟩:=b;go_simp;try with_reducible rfl
  refine Uo (i:=11) (v:=?va11) [] rfl (Or.inl ⟨by rfl,?ha11⟩) d ?ra11
  case ha11=>intro w' b;(try dsimp only at b);obtain⟨j,l,o⟩:=b;go_simp;try with_reducible rfl
  refine Uo (i:=12) (v:=?va12) [] rfl (Or.inl ⟨by rfl,?ha12⟩) d ?ra12
  case ha12=>intro w' b;(try dsimp only at b);obtain⟨j,l,o⟩:=b;go_simp;try with_reducible rfl
  refine Uo (i:=13) (v:=?va13) [] rfl (Or.inl ⟨by rfl,?ha13⟩) d ?ra13
  case ha13=>intro w' b;(try dsimp only at b);obtain⟨j,l,o⟩:=b;go_simp;try with_reducible rfl
  refine Uo (i:=14) (v:=?va14) [] rfl (Or.inl ⟨by rfl,?ha14⟩) d ?ra14
  case ha14=>intro w' b;(try dsimp only at b);obtain⟨j,l,o⟩:=b;go_simp;try with_reducible rfl
  refine Uo (i:=15) (v:=?va15) [] rfl (Or.inl ⟨by rfl,?ha15⟩) d ?ra15
  case ha15=>intro w' b;(try dsimp only at b);obtain⟨j,l,o⟩:=b;go_simp;try with_reducible rfl
  refine cq (rs:=[16,21]) (by kernel_rfl) (by simp) (ep.cons rfl (fun K f=>?mx) (ep.cons rfl (fun K f=>?my) ep.nil))
  case mx=>
   go_simp
   go_at_call 60
   refine Yg (A.o _) fun U u=>?_;have z:=aa (Yf E.o u);have O:=aa (yS ⟨hk,L,y⟩ F G u);clear u d;have d:=q.o U z.o;go_simp;refine f.out _ _ (fun _=>d) ?_;clear f K;refine Uo (i:=17) (v:=?vb17) [] rfl (Or.inl ⟨by rfl,?hb17⟩) d ?rb17
   case hb17=>intro w' b;(try dsimp only at b);obtain⟨j,l,o⟩:=b;go_simp;try with_reducible rfl
   refine Uo (i:=18) (v:=?vb18) [] rfl (Or.inl ⟨by rfl,?hb18⟩) d ?rb18
   case hb18=>intro w' b;(try dsimp only at b);obtain⟨j,l,o⟩:=b;go_simp;try with_reducible rfl
   refine Uo (i:=19) (v:=?vb19) [] rfl (Or.inl ⟨by rfl,?hb19⟩) d ?rb19
   case hb19=>intro w' b;(try dsimp only at b);obtain⟨j,l,o⟩:=b;go_simp;try with_reducible rfl
   refine Uo (i:=20) (v:=?vb20) [] rfl (Or.inl ⟨by rfl,?hb20⟩) d ?rb20
   case hb20=>intro w' b;(try dsimp only at b);obtain⟨j,l,o⟩:=b;go_simp;try with_reducible rfl
   refine Up 21 rfl (fun K f=>?_);go_simp;clear d;have d:=q.o _ (z.o.alloc z.o.size (.cells (hdC 0 0 0) 88));refine f.out _ _ (fun _=>d) ?_;clear f K;refine Up 22 rfl (fun K f=>?_);go_simp;clear d;have d:=q.o _ (z.o.alloc z.o.size (.cells (hdC hk L y) 88));refine f.out _ _ (fun _=>d) ?_;clear f K;refine Up 23 rfl (fun K f=>?_);go_simp;refine f.out _ _ (fun _=>d) ?_;clear f K;refine Up 24 rfl (fun K f=>?_);go_simp;refine f.out _ _ (fun _=>d) ?_;clear f K;refine oh (by kernel_rfl) ?_ _;go_wp2
   go_meet
   case rel=>exact O.o
  case my=>
   go_simp;clear d;have d:=q.o _ D.o;refine f.out _ _ (fun _=>d) ?_;clear f K;refine Up 16 rfl (fun K f=>?_);go_simp
   go_at_call 60
   refine Yg (A.o _) fun U u=>?_;have z:=aa (Yf D.o u);have O:=aa (vW ⟨hk,L,y⟩ F G u);clear u d;have d:=q.o U z.o;go_simp;refine f.out _ _ (fun _=>d) ?_;clear f K;refine Uo (i:=17) (v:=?vd17) [] rfl (Or.inl ⟨by rfl,?hd17⟩) d ?rd17
   case hd17=>intro w' b;(try dsimp only at b);obtain⟨j,l,o⟩:=b;go_simp;try with_reducible rfl
   refine Uo (i:=18) (v:=?vd18) [] rfl (Or.inl ⟨by rfl,?hd18⟩) d ?rd18
   case hd18=>intro w' b;(try dsimp only at b);obtain⟨j,l,o⟩:=b;go_simp;try with_reducible rfl
   refine Uo (i:=19) (v:=?vd19) [] rfl (Or.inl ⟨by rfl,?hd19⟩) d ?rd19
   case hd19=>intro w' b;(try dsimp only at b);obtain⟨j,l,o⟩:=b;go_simp;try with_reducible rfl
   refine Uo (i:=20) (v:=?vd20) [] rfl (Or.inl ⟨by rfl,?hd20⟩) d ?rd20
   case hd20=>intro w' b;(try dsimp only at b);obtain⟨j,l,o⟩:=b;go_simp;try with_reducible rfl
   refine Up 22 rfl (fun K f=>?_);have ad:=O.o.1;go_simp;clear d ad;have d:=q.o _ (((z.o.setCell (p:=⟨w.heap.size,0,none⟩) (ac _) (.int .i64 hk)).setCell (p:=⟨w.heap.size,1,none⟩) (ac _) (.int .i64 L)).setCell (p:=⟨w.heap.size,2,none⟩) (ac _) (.int .i64 y));refine f.out _ _ (fun _=>d) ?_;clear f K;refine Up 23 rfl (fun K f=>?_);go_simp;refine f.out _ _ (fun _=>d) ?_;clear f K;refine Up 24 rfl (fun K f=>?_);go_simp;refine f.out _ _ (fun _=>d) ?_;clear f K;refine oh (by kernel_rfl) ?_ _;go_wp2
   go_meet
   case rel=>exact O.o.2
 obtain⟨gh,rfl,rfl,rfl,M,R⟩:=hcut;have KX:=aa M;have BX:=aa R
 have x2:wc.cell? ⟨gh,2,none⟩=some (.int .i64 y):=M.cell 2;clear M R ab T A V q E D
 by_cases C:G=0
 rotate_left
 ·have S:Hid (smZ v t=(0,G)):=aa (by rw[H.o,if_pos C]);have e0:(G !=0)=true:=aA.2 C;clear C;go_wp2;go_ret2;exact⟨by rw[S.o];rfl,BX.o⟩
 ·have S:Hid (smZ v t=(F+y,0)):=aa (by rw[H.o,Fl (fun x=>x C)]);subst C;have d1:(F:Int)+(y:Int)<=9223372036854775807:=by have:=I.o (by first| rfl| trivial);omega
  have d2: -9223372036854775808<=(F:Int)+(y:Int):=by omega
  go_wp2;go_ret2;refine⟨?_,BX.o⟩;rw[S.o];simp
end
section
attribute [local go_sem ↓] bD bF bH bI bu
attribute [local go_sem] bc aD bh bg bK bJ bd aY be aO ax cI dC dB dt dj di dA dr dp dn bW co YK bZ YM cz cy cw cu YL YP YB bS bP bR
theorem wn(v most:Int)(g:Nat)(K:Option Addr)(n c a k z:Nat)(e:Int)(w:World)(hb:Bk w g SmT (smC v most K n c a k e))(hz:z<=n)(hc:n<=c)(ha:a<=1000000000000)(hk:k<=1000000000000)(hn:n<=1000000000000):
  Calls prog 27 #[.pointer (some ⟨g,0,none⟩),.int .i64 z] w fun e' w'=>e'= .returned (.tuple #[])/\Bk w' g SmT (smC v most (xt K n z 1) (n- z) (n- z) (a+z) (k+1) e)/\w.grownBy w' (some g):=by
 have b:=aa hb;have j:=fun W=>Bl (P:=prog) (t:=77) (e:=U8) (s:=1) underlying77 (fun W=>by kernel_rfl) K n c z hz hc W;have y:wrap64 ((a:Int)+(z:Int))=((a+z:Nat):Int):=by unfold wrap64;omega
 have A:wrap64 ((k:Int)+1)=((k+1:Nat):Int):=by unfold wrap64;omega
 have p:(a:Int)+(z:Int)<=9223372036854775807:=by omega
 have q:(k:Int)+1<=9223372036854775807:=by omega
 have l:w.cell? ⟨g,2,none⟩=some (.slice K n c):=b.o.cell 2;have m:w.cell? ⟨g,3,none⟩=some (.int .i64 a):=b.o.cell 3;have o:w.cell? ⟨g,4,none⟩=some (.int .i64 k):=b.o.cell 4;have r:=b.o.free 2;have u:=b.o.free 3;have x:=b.o.free 4
 clear hb hz hc ha hk hn;obtain⟨i,d⟩:∃i,xt K n z 1=i:=⟨_,rfl⟩;obtain⟨h,f⟩:∃h,n- z=h:=⟨_,rfl⟩;rw[d,f]at j;rw[d,f];clear d f;go_enter func27,ntmps27;go_wp2
 go_end0
 exact⟨rfl,((b.o.put 2 (.slice i h h)).put 3 (.int .i64 ((a+z:Nat):Int))).put 4 (.int .i64 ((k+1:Nat):Int)),((YR w g 2 _).trans (YR _ g 3 _)).trans (YR _ g 4 _)⟩
theorem gQ(v most:Int)(g:Nat)(K:Option Addr)(n c a k:Nat)(e:Int)(w:World)(hb:Bk w g SmT (smC v most K n c a k e)):
  Calls prog 17 #[.pointer (some ⟨g,0,none⟩)] w fun e' w'=>e'= .returned (.int .i64 n)/\w=w':=by
 have b:w.cell? ⟨g,2,none⟩=some (.slice K n c):=hb.cell 2;clear hb;go_enter func17,ntmps17;go_wp2;go_ret;exact⟨rfl,rfl⟩
theorem iQ(v most:Int)(g:Nat)(K:Option Addr)(n c a k:Nat)(e:Int)(w:World)(hb:Bk w g SmT (smC v most K n c a k e)):
  Calls prog 18 #[.pointer (some ⟨g,0,none⟩)] w fun e' w'=>e'= .returned (.int .i64 k)/\w=w':=by
 have b:w.cell? ⟨g,4,none⟩=some (.int .i64 k):=hb.cell 4;clear hb;go_enter func18,ntmps18;go_wp2;go_ret;exact⟨rfl,rfl⟩
theorem mV(v most:Int)(g:Nat)(K:Option Addr)(n c a k:Nat)(e:Int)(w:World)(hb:Bk w g SmT (smC v most K n c a k e)):
  Calls prog 12 #[.pointer (some ⟨g,0,none⟩)] w fun e' w'=>e'= .returned (.int .i64 a)/\w=w':=by
 have b:w.cell? ⟨g,3,none⟩=some (.int .i64 a):=hb.cell 3;clear hb;go_enter func12,ntmps12;go_wp2;go_ret;exact⟨rfl,rfl⟩
theorem lS(v most:Int)(g:Nat)(K:Option Addr)(n c a k:Nat)(e:Int)(w:World)(hb:Bk w g SmT (smC v most K n c a k e)):
  Calls prog 13 #[.pointer (some ⟨g,0,none⟩)] w fun e' w'=>e'= .returned (.int .i64 e)/\w=w':=by
 have b:w.cell? ⟨g,5,none⟩=some (.int .i64 e):=hb.cell 5;clear hb;go_enter func13,ntmps13;go_wp2;go_ret;exact⟨rfl,rfl⟩
def fC(v:Int)(t:ByteArray)(e:Int):Int:=if e≠0 then 0 else if(smZ v t).2≠0 then 1 else((smZ v t).1:Int) - (t.size:Int)
theorem yb:∀(l m:List UInt8) (n k:Nat),(rv l n k).2.2≠3->rv (l++m) n k=rv l n k
 | [],m,n,k,h=>absurd rfl h
 | b :: l,m,n,k,h=>by
   rw[IJ,rv,rv];rw[rv]at h;split
   ·rename_i hb;rw[if_pos hb]at h;split
    ·rfl
    ·rename_i hk;rw[Fl hk]at h;exact yb l m _ _ h
   ·rfl
theorem ui:∀(l:List UInt8) (n k:Nat),k<=3->(rv l n k).2.2=3->l.length+k<=3
 | [],n,k,hk,_=>by simpa using hk
 | b :: l,n,k,hk,h=>by
   rw[rv]at h;split at h
   ·split at h
    ·simp at h
    ·have:=ui l _ (k+1) (by omega) h;rw[bM];omega
   ·split at h
    ·simp at h
    ·simp at h
theorem nd{v:Int}{s u:ByteArray}(h:(hdR v s).2.2≠3):hdR v (s++u)=hdR v s:=by
 unfold hdR at h⊢
 by_cases b:YG v=false
 ·simp only[if_pos b]
 by_cases c:s.size=0
 ·rw[Fl b,if_pos c]at h;exact absurd rfl h
 have f:(s++u).size≠0:=by rw[cK];omega
 have g:YW (s++u)=YW s:=by
  unfold YW;rw[fe];cases i:ls s with
  | nil=>exact absurd (by rw[<-aN,i];rfl) c
  | cons x l=>rfl
 have j:ls ((s++u).extract 1 (s++u).size)=ls (s.extract 1 s.size)++ls u:=by
  rw[jP,jP,fe,List.drop_append_of_le_length (by rw[aN];omega)]
 rw[Fl b,Fl c]at h;rw[Fl b,Fl f,Fl b,Fl c,g,j]
 by_cases a:ff v (YW s/ 16:Nat) (YW s% 16:Nat)≠0
 ·rw[if_pos a,if_pos a]
 rw[Fl a]at h;rw[Fl a,Fl a];have d:(YT (ls (s.extract 1 s.size))).2.2≠3:=by
  intro e;rw[if_pos (by rw[e];decide)]at h;exact h e
 rw[show YT (ls (s.extract 1 s.size)++ls u)=YT (ls (s.extract 1 s.size))from yb _ (ls u) 0 0 d]
theorem Ad(v k f:Int):ff v k f≠3:=by
 unfold ff;cases YG v<;>cases dS v k<;>cases eu k f<;>simp
theorem sf{v:Int}{s:ByteArray}(h:(hdR v s).2.2=3):s.size<=4:=by
 unfold hdR at h;split at h
 ·simp at h
 split at h
 ·omega
 split at h
 ·exact absurd h (Ad _ _ _)
 split at h
 ·have:=ui _ 0 0 (by omega) h;rw[jP,bU,aN]at this;omega
 ·simp at h
theorem Cy(v:Int)(t:ByteArray):hdR v (t.extract 0 (min t.size 5))=hdR v t:=by
 by_cases h:t.size<=5
 ·congr 1
  apply eX;rw[ix,bt (by rw[aN];omega)]
 ·have a:(hdR v (t.extract 0 5)).2.2≠3:=fun e=>by
   have:=sf e;rw[aj]at this;omega
  have b:t.extract 0 5++t.extract 5 t.size=t:=eX (by rw[fe,ix,Y9,cg]);have:=nd (u:=t.extract 5 t.size) a;rw[b]at this;rw[show min t.size 5=5 by omega,this]
theorem ED{v:Int}{t:ByteArray}(h:(hdR v t).2.2=0){z:Nat}(hz:(hdR v t).2.1<=z):hdR v (t.extract 0 z)=hdR v t:=by
 obtain⟨b1,b2,c,b,d⟩:=kw (v:=v) (s:=t) (h:=(hdR v t).1) (a:=(hdR v t).2.1) (by rw[<-h]);have:=ZT b1 b2 (s:=t.extract 0 z) (R:=((ls t).drop (hdR v t).2.1).take (z- (hdR v t).2.1)) (by
  rw[ix]
  conv=>lhs;rw[c]
  rw[ot,bt (by omega),<-b])
 rw[this,<-b,<-h]
def hdZ(v:Int)(t:ByteArray):Nat:=(hdR v t).2.1+(hdR v t).1.n
theorem AZ(v:Int)(t:ByteArray):smZ v t=if(hdR v t).2.2≠0 then(0,(hdR v t).2.2)else(hdZ v t,0):=by
 unfold smZ;rw[Cy];rfl
theorem nI(v most:Int)(t:ByteArray):smN v most t=if(hdR v t).2.2≠0 then(pk0,0,(hdR v t).2.2)else if most<(hdZ v t:Nat)then(pk0,0,4)else if t.size<hdZ v t then(pk0,0,3)else mqR v (t.extract 0 (hdZ v t)):=by
 unfold smN;rw[AZ]
 by_cases h:(hdR v t).2.2≠0
 ·rw[if_pos h,if_pos h];exact(if_pos h).symm
 ·rw[Fl h,Fl h];exact Fl (fun x=>x rfl)
theorem uW{v:Int}{t:ByteArray}(h:(hdR v t).2.2=0)(hs:hdZ v t<=t.size):(mqR v (t.extract 0 (hdZ v t))).2.2≠3/\((mqR v (t.extract 0 (hdZ v t))).2.2=0->(mqR v (t.extract 0 (hdZ v t))).2.1=hdZ v t):=by
 have e:=ED h (z:=hdZ v t) (iX _ _);have c:(t.extract 0 (hdZ v t)).size=hdZ v t:=by rw[aj];omega
 unfold mqR;rw[e,Fl (fun x=>x h),Fl (by rw[c];exact WQ _)];generalize chR v (hdR v t).1 ((t.extract 0 (hdZ v t)).extract (hdR v t).2.1 ((hdR v t).2.1+(hdR v t).1.n))=r;split
 ·exact⟨by simp,fun _=>rfl⟩
 ·rename_i b;refine⟨?_,fun a=>?_⟩
  ·dsimp only;split
   ·decide
   ·assumption
  ·dsimp only at a;split at a
   ·cases a
   ·exact absurd a b
theorem nH{v most:Int}{t:ByteArray}(h:(smN v most t).2.2=3):(hdR v t).2.2=3\/((hdR v t).2.2=0/\(hdZ v t:Int)<=most/\t.size<hdZ v t):=by
 rw[nI]at h;split at h
 ·exact .inl h
 rename_i a;have a:=il.1 a;split at h
 ·simp at h
 rename_i c;split at h
 ·rename_i b;exact .inr ⟨a,by omega,b⟩
 ·rename_i b;exact absurd h (uW a (by omega)).1
theorem nG{v most:Int}{t:ByteArray}(h:(hdR v t).2.2=3\/((hdR v t).2.2=0/\(hdZ v t:Int)<=most/\t.size<hdZ v t)):(smN v most t).2.2=3:=by
 rw[nI];rcases h with h| ⟨a,c,b⟩
 ·rw[if_pos (by rw[h];decide)];exact h
 ·rw[Fl (fun x=>x a),Fl (by omega),if_pos b]
theorem tZ{v most:Int}{t u:ByteArray}(h:(smN v most t).2.2≠3):smN v most (t++u)=smN v most t:=by
 have f:(hdR v t).2.2≠3:=fun e=>h (nG (.inl e));have d:=nd (u:=u) f;have g:hdZ v (t++u)=hdZ v t:=by unfold hdZ;rw[d]
 rw[nI v most t]at h;rw[nI,nI,g,d]
 by_cases a:(hdR v t).2.2≠0
 ·rw[if_pos a,if_pos a]
 rw[Fl a]at h;rw[Fl a,Fl a]
 by_cases b:most<(hdZ v t:Nat)
 ·rw[if_pos b,if_pos b]
 rw[Fl b]at h;rw[Fl b,Fl b]
 by_cases c:t.size<hdZ v t
 ·rw[if_pos c]at h;exact absurd rfl h
 rw[Fl c,Fl (by rw[cK];omega)]
 congr 1
 apply eX;rw[ix,ix,fe,eW (by rw[aN];omega)]
theorem Ba(v most:Int):∀(f f':Nat) (t:ByteArray) (a k:Nat) (l:List Pk),t.size<f->t.size<f'->smF v most f t a k l=smF v most f' t a k l
 | 0,_,_,_,_,_,h,_=>absurd h (by omega)
 | _+1,0,_,_,_,_,_,h=>absurd h (by omega)
 | f+1,f'+1,t,a,k,l,h,h'=>by
   rw[mU,mU];split
   ·rename_i h0;have:=jD h0;exact Ba v most f f' _ _ _ _ (by rw[aj];omega) (by rw[aj];omega)
   ·rfl
def smG(v most:Int)(t:ByteArray)(a k:Nat)(l:List Pk):List Pk×ByteArray×Nat×Nat×Int:=smF v most (t.size+1) t a k l
theorem fK(v most:Int)(t:ByteArray)(a k:Nat)(l:List Pk):smG v most t a k l=
  if(smN v most t).2.2=0 then smG v most (t.extract (smN v most t).2.1 t.size) (a+(smN v most t).2.1) (k+1) (l++[(smN v most t).1])
  else if(smN v most t).2.2=3 then(l,t,a,k,0)
  else(l,⟨#[]⟩,a,k,(smN v most t).2.2):=by
 unfold smG;rw[mU];split
 ·rename_i b;have:=jD b;exact Ba v most _ _ _ _ _ _ (by rw[aj];omega) (ed _)
 ·rfl
theorem pi(v most:Int):∀(N:Nat) (t:ByteArray) (a k:Nat) (l:List Pk),t.size<=N->smG v most t a k l=
  (l++(smG v most t 0 0 []).1,(smG v most t 0 0 []).2.1,a+(smG v most t 0 0 []).2.2.1,k+(smG v most t 0 0 []).2.2.2.1,(smG v most t 0 0 []).2.2.2.2)
 | N,t,a,k,l,hN=>by
   rw[fK v most t a k l,fK v most t 0 0 []];split
   ·rename_i h0;have h1:=jD h0;have b:(t.extract (smN v most t).2.1 t.size).size=t.size- (smN v most t).2.1:=by rw[aj];omega
    match N,hN with
    | 0,hN=>omega
    | N+1,hN=>
      rw[pi v most N _ (a+(smN v most t).2.1) (k+1) (l++[(smN v most t).1]) (by omega),pi v most N _ (0+(smN v most t).2.1) (0+1) ([]++[(smN v most t).1]) (by omega)];simp only[List.append_assoc,dX,bV,Nat.add_assoc]
   ·split
    ·simp
    ·simp
theorem sH(v most:Int)(u:ByteArray):∀(N:Nat) (t:ByteArray) (a k:Nat) (l:List Pk),t.size<=N->smG v most (t++u) a k l=
  if(smG v most t a k l).2.2.2.2=0 then smG v most ((smG v most t a k l).2.1++u) (smG v most t a k l).2.2.1 (smG v most t a k l).2.2.2.1 (smG v most t a k l).1 else smG v most t a k l
 | N,t,a,k,l,hN=>by
   by_cases h0:(smN v most t).2.2=0
   ·have e:smN v most (t++u)=smN v most t:=tZ (by rw[h0];decide);have c:=jD h0;have f:(t.extract (smN v most t).2.1 t.size).size=t.size- (smN v most t).2.1:=by rw[aj];omega
    have d:(t++u).extract (smN v most t).2.1 (t++u).size=t.extract (smN v most t).2.1 t.size++u:=eX (by
     rw[Y9,fe,fe,Y9,List.drop_append_of_le_length (by rw[aN];exact c.2)])
    rw[fK v most (t++u),e,if_pos h0,fK v most t a k l,if_pos h0,d]
    match N,hN with
    | 0,hN=>omega
    | N+1,hN=>exact sH v most u N _ _ _ _ (by omega)
   ·by_cases b:(smN v most t).2.2=3
    ·rw[fK v most t a k l,Fl h0,if_pos b];exact(if_pos rfl).symm
    ·have e:=tZ (u:=u) b;rw[fK v most (t++u),e,Fl h0,Fl b,fK v most t a k l,Fl h0,Fl b];exact(Fl h0).symm
theorem sG(v most:Int):∀(N:Nat) (t:ByteArray) (a k:Nat) (l:List Pk),t.size<=N->
  ((smG v most t a k l).2.2.2.2=0->(smN v most (smG v most t a k l).2.1).2.2=3)/\((smG v most t a k l).2.2.2.2≠0->(smG v most t a k l).2.1=⟨#[]⟩)/\
  (smG v most t a k l).2.2.2.1+l.length=k+(smG v most t a k l).1.length/\(smG v most t a k l).2.2.1+(smG v most t a k l).2.1.size<=a+t.size/\(smG v most t a k l).2.2.2.1<=k+t.size/\(smG v most t a k l).2.2.2.2≠3
 | N,t,a,k,l,hN=>by
   rw[fK];split
   ·rename_i h0;have h1:=jD h0;have g:(t.extract (smN v most t).2.1 t.size).size=t.size- (smN v most t).2.1:=by rw[aj];omega
    match N,hN with
    | 0,hN=>omega
    | N+1,hN=>
      obtain⟨c,d,e,i,j,f⟩:=sG v most N (t.extract (smN v most t).2.1 t.size) (a+(smN v most t).2.1) (k+1) (l++[(smN v most t).1]) (by omega);rw[List.length_append,qU]at e;exact⟨c,d,by omega,by omega,by omega,f⟩
   ·rename_i h0;split
    ·rename_i b;exact⟨fun _=>b,fun h=>absurd rfl h,rfl,ac _,iX _ _,by simp⟩
    ·rename_i b;exact⟨fun h=>absurd h h0,fun _=>rfl,rfl,by show a+0<=a+t.size;omega,iX _ _,b⟩
theorem t6{v most:Int}{t:ByteArray}(h:(smN v most t).2.2=3)(a k:Nat)(l:List Pk):smG v most t a k l=(l,t,a,k,0):=by
 rw[fK,Fl (by rw[h];decide),if_pos h]
theorem t7{v most:Int}(hv:YG v=true)(a k:Nat)(l:List Pk):smG v most ⟨#[]⟩ a k l=(l,⟨#[]⟩,a,k,0):=by
 refine t6 (nG (.inl ?_)) a k l;unfold hdR;rw[Fl (by rw[hv];decide),if_pos (show(⟨#[]⟩:ByteArray).size=0 from rfl)]
theorem kg(v:Int)(t:ByteArray):fC v t 0=if(hdR v t).2.2≠0 then 1 else(hdZ v t:Int) - (t.size:Int):=by
 unfold fC;rw[Fl (fun x=>x rfl),AZ]
 by_cases h:(hdR v t).2.2≠0
 ·rw[if_pos h,if_pos h];exact(if_pos h).symm
 ·rw[Fl h,Fl h];exact Fl (fun x=>x rfl)
theorem mT{v most:Int}{t:ByteArray}(h:(smN v most t).2.2=3)(hm:16<=most):1<=fC v t 0/\fC v t 0<=most/\(t.size:Int)<=most- 1:=by
 rw[kg];rcases nH h with a| ⟨a,b,c⟩
 ·rw[if_pos (by rw[a];decide)];have:=sf a;omega
 ·rw[Fl (fun x=>x a)];omega
theorem M7{v most:Int}{p:Pk}(h:mqE v p=0)(hn:∀q∈p.props,q.n<4294967296)(hw:∀q∈p.will.props,q.n<4294967296)(hm:((mqS v p).size:Int)<=most):smN v most (mqS v p)=(p,(mqS v p).size,0):=by
 have c:mqR v (mqS v p)=(p,(mqS v p).size,0):=Lb h hn hw (R:=[]) (YO _).symm;have a:(hdR v (mqS v p)).2.2=0:=by
  have:=c;unfold mqR at this;split at this
  ·rename_i a;simp only[bG]at this;exact absurd this.2.2 a
  ·rename_i a;exact il.1 a
 have f:hdZ v (mqS v p)=(mqS v p).size:=by
  have:=c;unfold mqR at this;rw[Fl (fun x=>x a)]at this;split at this
  ·simp at this
  split at this
  ·simp only[bG]at this;exact this.2.1
  ·rename_i g d;simp only[bG]at this;have b:=this.2.2;split at b
   ·cases b
   ·exact absurd b d
 have e:(mqS v p).extract 0 (mqS v p).size=mqS v p:=eX (by rw[ix,bt (by rw[aN];exact ac _)]);rw[nI,Fl (fun x=>x a),f,Fl (by omega),Fl (WQ _),e,c]
def tB(s:ByteArray)(z:Int):Nat:=(mq z ((s.size+1:Nat):Int)).toNat
def qG(st:List ByteArray×ByteArray)(z:Int):List ByteArray×ByteArray:=(st.1++[st.2.extract 0 (tB st.2 z)],st.2.extract (tB st.2 z) st.2.size)
def mf(s:ByteArray)(l:List Int):List ByteArray×ByteArray:=l.foldl qG ([],s)
def rr(s:ByteArray)(l:List Int):List ByteArray:=(mf s l).1++[(mf s l).2]
theorem zG(n:Int)(m:Nat):∃q:Nat,mq n ((m+1:Nat):Int)=q/\q<=m:=by
 have a:=Int.emod_nonneg n (show((m+1:Nat):Int)≠0 by omega);have b:=Int.emod_lt_of_pos n (show 0<((m+1:Nat):Int) by omega);unfold mq;rw[Fl (by omega)];exact⟨(n% ((m+1:Nat):Int)).toNat,by omega,by omega⟩
theorem EM(s:ByteArray)(z:Int):mq z ((s.size+1:Nat):Int)=(tB s z:Int)/\tB s z<=s.size:=by
 obtain⟨q,a,b⟩:=zG z s.size;unfold tB;rw[a];exact⟨by simp,by simpa using b⟩
theorem Aj(s:ByteArray){l:List Int}{k:Nat}(h:k<l.length):mf s (l.take (k+1))=qG (mf s (l.take k)) l[k]:=by
 unfold mf;rw[fE h,List.foldl_append];rfl
theorem vF(s:ByteArray):∀(l:List Int) (st:List ByteArray×ByteArray),(l.foldl qG st).1.length=st.1.length+l.length
 | [],_=>rfl
 | z :: l,st=>by
   rw[jq,vF s l];simp[qG];omega
theorem Al(l:List Int):∀(st:List ByteArray×ByteArray),(l.foldl qG st).1.flatMap ls++ls (l.foldl qG st).2=st.1.flatMap ls++ls st.2:=by
 induction l with
 | nil=>intro st;rfl
 | cons z l ih=>
   intro st;rw[jq,ih];unfold qG;simp only[fR,YS,List.flatMap_nil,YO,List.append_assoc];rw[ix,Y9,cg]
theorem Ak(s:ByteArray)(l:List Int):(rr s l).flatMap ls=ls s:=by
 unfold rr;rw[fR];have:=Al l ([],s)
 simpa [mf]using this
theorem aa8(s:ByteArray)(l:List Int):(rr s l).length=l.length+1:=by
 unfold rr mf;rw[List.length_append,vF s l];simp
theorem xr(l:List Int):∀(st:List ByteArray×ByteArray),(l.foldl qG st).2.size<=st.2.size:=by
 induction l with
 | nil=>intro st;exact ac _
 | cons z l ih=>
   intro st;rw[jq];refine aC (ih _) ?_;unfold qG;dsimp only;rw[aj];omega
def jO(l:List ByteArray):ByteArray:=⟨(l.flatMap ls).toArray⟩
theorem ko(l:List ByteArray):ls (jO l)=l.flatMap ls:=jo _
theorem xa(l:List ByteArray)(x:ByteArray):jO (l++[x])=jO l++x:=eX (by
 rw[fe,ko,ko,fR];simp)
theorem zY(s:ByteArray)(l:List Int):jO (rr s l)=s:=eX (by rw[ko,Ak])
theorem mr(l:List ByteArray)(k:Nat):(jO (l.take k)).size<=(jO l).size:=by
 rw[<-aN,<-aN,ko,ko]
 conv=>rhs;rw[<-cg k l,fR,List.length_append]
 exact iX _ _
theorem CM{v most:Int}{T u t:ByteArray}{a k:Nat}{l:List Pk}(h:smG v most T 0 0 []=(l,t,a,k,0)):
  smG v most (T++u) 0 0 []=(l++(smG v most (t++u) a k []).1,(smG v most (t++u) a k []).2.1,(smG v most (t++u) a k []).2.2.1,(smG v most (t++u) a k []).2.2.2.1,(smG v most (t++u) a k []).2.2.2.2):=by
 rw[sH v most u _ T 0 0 [] (ac _),h];dsimp only;rw[if_pos rfl,pi v most _ (t++u) a k l (ac _),pi v most _ (t++u) a k [] (ac _)];simp only[dX]
theorem EJ{v most:Int}{T u t:ByteArray}{a k:Nat}{l:List Pk}{e:Int}(h:smG v most T 0 0 []=(l,t,a,k,e))(he:e≠0):smG v most (T++u) 0 0 []=(l,t,a,k,e):=by
 rw[sH v most u _ T 0 0 [] (ac _),h];exact Fl he
def nF(v mp md:Int):Bool:=YG v&&decide (16<=mp/\mp<=1048576/\0<=md/\md<=32)
def zW(mp md:Int):Value:=.agg #[.int .i64 mp,.int .i64 md]
def xL(v mp md:Int)(w:World)(e:Ending)(w':World):Prop:=
 Below w.heap.size w w'/\if nF v mp md=true then ∃g,e= .returned (.tuple #[.pointer (some ⟨g,0,none⟩),.int .i64 0])/\w.heap.size<=g/\Bk w' g SmT (smC v mp none 0 0 0 0 0)else e= .returned (.tuple #[.pointer none,.int .i64 2])
theorem qi{v mp md:Int}{w w':World}(h:nF v mp md=false)(hb:Below w.heap.size w w'):xL v mp md w (.returned (.tuple #[.pointer none,.int .i64 2])) w':=by
 refine⟨hb,?_⟩;rw[Fl (by rw[h];decide)]
theorem zL{v mp md:Int}{w w':World}{g:Nat}(h:nF v mp md=true)(hb:Below w.heap.size w w')(hg:w.heap.size<=g)(hk:Bk w' g SmT (smC v mp none 0 0 0 0 0)):xL v mp md w (.returned (.tuple #[.pointer (some ⟨g,0,none⟩),.int .i64 0])) w':=by
 refine⟨hb,?_⟩;rw[if_pos h];exact⟨g,rfl,hg,hk⟩
theorem ZQ(v mp md:Int)(w:World):Calls prog 8 #[.int .i64 v,zW mp md] w (xL v mp md w):=by
 have a:Hid (nF v mp md=(decide (v=4\/v=5)&&decide (16<=mp/\mp<=1048576/\0<=md/\md<=32))):=aa rfl;have f:=aa ((aq w.heap.size w).alloc (ac _) (.cells #[.int .i64 mp,.int .i64 md] 23));have o:Hid ((w.alloc (.cells #[.int .i64 mp,.int .i64 md] 23)).heap.size=w.heap.size+1):=aa (by simp);have l:=aa (Bk.fresh w 23 #[.int .i64 mp,.int .i64 md]);have q:(w.alloc (.cells #[.int .i64 mp,.int .i64 md] 23)).cell? ⟨w.heap.size,0,none⟩=some (.int .i64 mp):=l.o.cell 0;have r:(w.alloc (.cells #[.int .i64 mp,.int .i64 md] 23)).cell? ⟨w.heap.size,1,none⟩=some (.int .i64 md):=l.o.cell 1;unfold zW
 by_cases d:v=4\/v=5
 rotate_left
 ·have c:Hid (nF v mp md=false):=aa (by rw[a.o,ah d];rfl);have g:(v !=4)=true:=aA.2 (by omega);have m:(v !=5)=true:=aA.2 (by omega);clear d a;go_enter func8,ntmps8;go_wp2;go_ret2;exact qi c.o f.o
 have i:(v !=4)=false\/((v !=4)=true/\(v !=5)=false):=by
  by_cases e:v=4
  ·exact .inl (by rw[e];rfl)
  ·exact .inr ⟨aA.2 e,by rw[show v=5 by omega];rfl⟩
 by_cases h:16<=mp/\mp<=1048576/\0<=md/\md<=32
 rotate_left
 ·have c:Hid (nF v mp md=false):=aa (by rw[a.o,ah h,ru]);have b:mp<16\/(16<=mp/\1048576<mp)\/(16<=mp/\mp<=1048576/\md<0)\/(16<=mp/\mp<=1048576/\0<=md/\32<md):=by omega
  clear d h a;rcases i with g| ⟨g,m⟩<;>rcases b with b| ⟨b,j⟩ | ⟨b,j,n⟩ | ⟨b,j,n,p⟩
  all_goals
   go_enter func8,ntmps8;go_wp2;go_ret2;exact qi c.o f.o
 have c:Hid (nF v mp md=true):=aa (by rw[a.o,au d,au h];rfl);have k:=aa (Bk.fresh (w.alloc (.cells #[.int .i64 mp,.int .i64 md] 23)) SmT (smC v mp none 0 0 0 0 0));obtain⟨b,j,n,p⟩:=h;clear d a;rcases i with g| ⟨g,m⟩
 all_goals
  go_enter func8,ntmps8;go_wp2;go_ret2;refine zL c.o (f.o.alloc f.o.size _) ?_ (by rw[o.o]at k;exact k.o);omega
theorem Kp.apart{w0 w y:World}{K:Option Addr}{n c:Nat}{t:List UInt8}(h:Kp w0 w K n c t){gp:Nat}{ty:TypeId}{cs:Array Value}(hp:Bk w gp ty cs)(hne:ty≠U8)(hm:w.grownBy y (some gp)):Kp w0 y K n c t:=by
 refine⟨h.len,h.cap,?_⟩;rcases h.lies with b| ⟨g,o,M,b,d,a,f⟩
 ·exact .inl b
 ·refine .inr ⟨g,o,M,b,d,(hm.block g a.lt fun e=>?_).trans a,f⟩;cases e;unfold Bk at hp a;rw[hp]at a;simp only[aX,fc]at a;exact hne a.2.1
theorem yB{w0 w:World}{K:Option Addr}{n c z:Nat}{t:ByteArray}(h:Kp w0 w K n c (ls t))(hz:z<=n):(convert 77 9 (.slice K z c)).run prog w= .ok (.string (t.extract 0 z)) w:=by
 have a:=h.rd.cut_to hz;rw[Y8,lM]at a;have b:=ni (P:=prog) 77 9 U8 underlying77 underlying5 underlying9 c a;rw[b]
 congr 2
 apply eX;rw[jo];have:=Ym t 0 z;rw[bV,Yl]at this;exact this.symm
theorem DM{v:Int}{t:ByteArray}:(smZ v t).1<=268435460:=by
 unfold smZ;split
 ·exact ag _
 rename_i h;have c:=il.1 h;obtain⟨b1,b2,d,e,b⟩:=kw (v:=v) (s:=t.extract 0 (min t.size 5)) (h:=(hdR v (t.extract 0 (min t.size 5))).1) (a:=(hdR v (t.extract 0 (min t.size 5))).2.1) (by rw[<-c]);rw[aj]at b;dsimp only;omega
theorem wj(v most:Int)(g:Nat)(K:Option Addr)(n c a k:Nat)(e:Int)(t:ByteArray)(w0 w:World)(hb:Bk w g SmT (smC v most K n c a k e))(hk:Kp w0 w K n c (ls t))(ht:t.size<=1000000000000):
  Calls prog 26 #[.pointer (some ⟨g,0,none⟩)] w (tM (smN v most t) w):=by
 have O:Hid (smN v most t=if(smZ v t).2≠0 then(pk0,0,(smZ v t).2)else if most<((smZ v t).1:Nat)then(pk0,0,4)else if t.size<(smZ v t).1 then(pk0,0,3)else mqR v (t.extract 0 (smZ v t).1)):=aa rfl;have HT:=aa ht;have HL:Hid (t.size=n):=aa (by rw[<-aN];exact hk.len);have X:=(aq w.heap.size w).alloc (ac _) (.cells (pkC pk0 hs0) PkT);have N:=aa X;have T:=aa (Bk.fresh w PkT (pkC pk0 hs0));have HG:=aa (show g<w.heap.size from hb.lt);have I:=aa (hb.alloc (.cells (pkC pk0 hs0) PkT));have U:=aa (hk.below X);have L:=aa (pM v most g K n c a k e t w0 _ I.o U.o ht);have ao:=aa (DM (v:=v) (t:=t));clear hb hk ht X;obtain⟨⟨z,x⟩,hz⟩:∃r,smZ v t=r:=⟨_,rfl⟩;rw[hz]at O L ao;dsimp only at O L ao;clear hz;go_enter func26,ntmps26
 go_wp2_with fail
 refine L.o.mono ?_;rintro e' j ⟨rfl,hb⟩;have E:=aa (Yf N.o hb);have u:=aa (Yh T.o hb);have f:=aa (Yh I.o hb);have G:=aa (U.o.below hb);clear hb L N T I U;have ab:=aW u.o pk0 hs0;have J:Hid (Below w.heap.size w (dE j w.heap.size pk0 hs0)):=aa (YQ E.o E.o.size (ac _) pk0 hs0);have D:=aa (cO u.o pk0 hs0)
 by_cases hx:x=0
 rotate_left
 ·have B:Hid (smN v most t=(pk0,0,x)):=aa (by rw[O.o,if_pos hx]);have e0:(x !=0)=true:=aA.2 hx;clear hx;go_wp2;refine av (eZ rfl _ rfl D.o) rfl ?_;exact gR B.o J.o
 have Q:Hid (smN v most t=if most<(z:Nat)then(pk0,0,4)else if t.size<z then(pk0,0,3)else mqR v (t.extract 0 z)):=aa (by rw[O.o,Fl (fun y=>y hx)]);subst hx;have c1:j.cell? ⟨g,1,none⟩=some (.int .i64 most):=f.o.cell 1;have c2:j.cell? ⟨g,2,none⟩=some (.slice K n c):=f.o.cell 2
 by_cases H:most<(z:Nat)
 ·have B:Hid (smN v most t=(pk0,0,4)):=aa (by rw[Q.o,if_pos H]);go_wp2;refine av (eZ rfl _ rfl D.o) rfl ?_;exact gR B.o J.o
 have m1:decide (most<(z:Int))=false:=ah H;have S:Hid (smN v most t=if t.size<z then(pk0,0,3)else mqR v (t.extract 0 z)):=aa (by rw[Q.o,Fl H]);clear H O Q
 go_upto_region 4 with fail
 go_upto_if 21 with fail
 clear m1
 go_upto_region 6 with fail
 by_cases M:n<z
 ·have B:Hid (smN v most t=(pk0,0,3)):=aa (by rw[S.o,if_pos (by rw[HL.o];exact M)]);have m2:decide ((n:Int)<(z:Int))=true:=au (by omega);have m3:decide (n<z)=true:=au M;clear M;go_wp2;refine av (eZ rfl _ rfl D.o) rfl ?_;exact gR B.o J.o
 have m2:decide ((n:Int)<(z:Int))=false:=ah (by omega);have m3:decide (n<z)=false:=ah M;have V:Hid (z<=n):=aa (by omega);have B:Hid (smN v most t=mqR v (t.extract 0 z)):=aa (by rw[S.o,Fl (by rw[HL.o];exact M)]);clear M S;clear D J
 go_upto_region 8 with fail
 clear ab m2 m3 c1 c2;have ag:Hid (∀W,Below j.heap.size j W->(convert 77 9 (.slice K z c)).run prog W= .ok (.string (t.extract 0 z)) W):=aa (fun W C=>yB (G.o.below C) V.o);have an:Hid (∀W,Below j.heap.size j W->W.cell? ⟨g,0,none⟩=some (.int .i64 v)/\W.cell? ⟨g,2,none⟩=some (.slice K n c)/\(convert 77 9 (.slice K z c)).run prog W= .ok (.string (t.extract 0 z)) W):=aa (fun W C=>⟨(Yh f.o C).cell 0,(Yh f.o C).cell 2,ag.o W C⟩);have aB:Hid (∀W (p:Pk) (q:Hs),Below j.heap.size j W->(dE W w.heap.size p q).cell? ⟨g,0,none⟩=some (.int .i64 v)/\(dE W w.heap.size p q).cell? ⟨g,2,none⟩=some (.slice K n c)/\(convert 77 9 (.slice K z c)).run prog (dE W w.heap.size p q)= .ok (.string (t.extract 0 z)) (dE W w.heap.size p q)):=aa (fun W p q C=>by
  have hk:=Yh u.o C;have H:=cJ W w.heap.size p q;have hg:Bk (dE W w.heap.size p q) g SmT (smC v most K n c a k e):=(H.block g (Yh f.o C).lt (fun e=>by cases e;exact absurd HG.o (WQ _))).trans (Yh f.o C);exact⟨hg.cell 0,hg.cell 2,yB ((G.o.below C).apart hk (by decide) H) V.o⟩)
 have F:Hid (Below j.heap.size j j.drew):=aa (aV (aq j.heap.size j) 1);have aR:=fun W=>Bi (P:=prog) (t:=77) (e:=U8) (s:=1) underlying77 (fun W=>by kernel_rfl) K n c z (aC V.o G.o.cap) W;have ai:=aa (fun W=>wS v (t.extract 0 z) W (by rw[aj];have:=HT.o;omega));obtain⟨R,hR⟩:∃R,mqR v (t.extract 0 z)=R:=⟨_,rfl⟩;rw[hR]at B ai;clear hR ag;refine je (fun h=>h.cell? ⟨g,0,none⟩=some (.int .i64 v)/\h.cell? ⟨g,2,none⟩=some (.slice K n c)/\(convert 77 9 (.slice K z c)).run prog h= .ok (.string (t.extract 0 z)) h) [] (by kernel_rfl) ?_;have d:=an.o j.drew F.o;refine Uo (i:=0) (v:=?va0) [] rfl (Or.inl ⟨by rfl,?ha0⟩) d ?ra0
 case ha0=>intro h b;(try dsimp only at b);obtain⟨l,m,o⟩:=b;go_simp;try with_reducible rfl
 refine Uo (i:=1) (v:=?va1) [] rfl (Or.inl ⟨by rfl,?ha1⟩) d ?ra1
 case ha1=>intro h b;(try dsimp only at b);obtain⟨l,m,o⟩:=b;go_simp;try with_reducible rfl
 refine Uo (i:=2) (v:=?va2) [] rfl (Or.inl ⟨by rfl,?ha2⟩) d ?ra2
 case ha2=>intro h b;(try dsimp only at b);obtain⟨l,m,o⟩:=b;go_simp;try with_reducible rfl
 refine Uo (i:=3) (v:=?va3) [] rfl (Or.inl ⟨by rfl,?ha3⟩) d ?ra3
 case ha3=>intro h b;(try dsimp only at b);obtain⟨l,m,o⟩:=b;go_simp;try with_reducible rfl
 refine Uo (i:=4) (v:=?va4) [] rfl (Or.inl ⟨by rfl,?ha4⟩) d ?ra4
 case ha4=>intro h b;(try dsimp only at b);obtain⟨l,m,o⟩:=b;go_simp;try with_reducible rfl
 refine Uo (i:=5) (v:=?va5) [] rfl (Or.inl ⟨by rfl,?ha5⟩) d ?ra5
 case ha5=>intro h b;(try dsimp only at b);obtain⟨l,m,o⟩:=b;go_simp;try with_reducible rfl
 refine Uo (i:=6) (v:=?va6) [] rfl (Or.inl ⟨by rfl,?ha6⟩) d ?ra6
 case ha6=>intro h b;(try dsimp only at b);obtain⟨l,m,o⟩:=b;go_simp;try with_reducible rfl
 refine Uo (i:=7) (v:=?va7) [] rfl (Or.inl ⟨by rfl,?ha7⟩) d ?ra7
 case ha7=>intro h b;(try dsimp only at b);obtain⟨l,m,o⟩:=b;go_simp;try with_reducible rfl
 refine Uo (i:=8) (v:=?va8) [] rfl (Or.inl ⟨by rfl,?ha8⟩) d ?ra8
 case ha8=>intro h b;(try dsimp only at b);obtain⟨l,m,o⟩:=b;go_simp;try with_reducible rfl
 refine Uo (i:=9) (v:=?va9) [] rfl (Or.inl ⟨by rfl,?ha9⟩) d ?ra9
 case ha9=>intro h b;(try dsimp only at b);obtain⟨l,m,o⟩:=b;go_simp;try with_reducible rfl
 refine Uo (i:=10) (v:=?va10) [] rfl (Or.inl ⟨by rfl,?ha10⟩) d ?ra10
 case ha10=>intro h b;(try dsimp only at b);obtain⟨l,m,o⟩:=b;go_simp;try with_reducible rfl
 refine Up 11 rfl (fun K A=>?_);go_simp
 go_at_call 41
 refine(ai.o _).mono ?_;rintro e' w3 ⟨Z,rfl,ar,Y,ap⟩;have B3:=aa (Yf F.o Y);have K3:=aa (Yh u.o B3.o);have I3:=aa ar;have F3:=aa ap;have Z3:=aa Y.size
 clear ar Y ap d;have d:=an.o w3 B3.o;go_simp;refine A.out _ _ (fun _=>d) ?_;clear A K;refine Uo (i:=12) (v:=?vb12) [] rfl (Or.inl ⟨by rfl,?hb12⟩) d ?rb12
 case hb12=>intro h b;(try dsimp only at b);obtain⟨l,m,o⟩:=b;go_simp;try with_reducible rfl
 refine Uo (i:=13) (v:=?vb13) [] rfl (Or.inl ⟨by rfl,?hb13⟩) d ?rb13
 case hb13=>intro h b;(try dsimp only at b);obtain⟨l,m,o⟩:=b;go_simp;try with_reducible rfl
 refine Uo (i:=14) (v:=?vb14) [] rfl (Or.inl ⟨by rfl,?hb14⟩) d ?rb14
 case hb14=>intro h b;(try dsimp only at b);obtain⟨l,m,o⟩:=b;go_simp;try with_reducible rfl
 refine Up 15 rfl (fun K A=>?_);have ab:=aW K3.o R.1 Z;go_simp;clear ab d;have d:=aB.o w3 R.1 Z B3.o;refine A.out _ _ (fun _=>d) ?_;clear A K;refine Up 16 rfl (fun K A=>?_);go_simp;refine A.out _ _ (fun _=>d) ?_;clear A K;refine Up 17 rfl (fun K A=>?_);go_simp;refine A.out _ _ (fun _=>d) ?_;clear A K;refine oh (by kernel_rfl) ?_ _;go_wp2;refine av (eZ rfl _ rfl (cO K3.o R.1 Z)) rfl ?_;have BB:=Yf E.o B3.o;exact⟨Z,by rw[B.o];rfl,by rw[B.o];exact I3.o.put K3.o (cJ _ _ _ _) F3.o (YU u.o.lt F.o.size),YQ BB BB.size (ac _) R.1 Z,by rw[B.o];exact F3.o.mono (aC E.o.size F.o.size)⟩
end
end Go.Proofs.YtemooicddjimbaaGreatDoor
namespace Go.Proofs.YtemooicddjimbaaGreatDoor
open Go.ChangeShapes Go.WideShapes Go.ChangeAt Go.RowKit Go.Deep
open Go.Proofs.Tryz
set_option maxRecDepth 100000
section
variable {H:Type} {enc:TypeId×Value->H} {P:Program} {w:World} {base:Nat} {spare:Nat->Bool} {held:Bool}
theorem vz{fs:Array Field}{n:Nat}{cs:List Value}{xs:List (DataW H×List MemPlace)}
  (hf:∀(i:Nat) (f:Field),fs[i]? =some f->DataW.trod enc P w base spare held n f.type ((cs.drop f.offset).take (P.cellsOf f.type))=xs[i]?)
  (i:Nat){t:TypeId}{o k:Nat}(hi:(fs[i]?.map fun f=>(f.type,f.offset,P.cellsOf f.type))=some (t,o,k)):DataW.trod enc P w base spare held n t ((cs.drop o).take k)=xs[i]? :=by
 obtain⟨f,b,a⟩:=Option.map_eq_some_iff.1 hi;simp only[bG]at a;obtain⟨rfl,rfl,rfl⟩:=a;exact hf i f b
theorem fu.field{t:TypeId}{fs:Array Field}{ds:List (DataW H)}(ht:P.underlying t=some (.struct fs))(h:fu P t (.agg ds)){i:Nat}{u:TypeId}{d:DataW H}(hu:(fs.toList.map (·.type))[i]? =some u)(hd:ds[i]? =some d):fu P u d:=fun z a=>h z (by
 simp only[DataW.weights,ht];exact DataW.weights_mem_each hu hd z a)
theorem fu.text{t:TypeId}{s:ByteArray}(h:fu P t (.lit (.string s.data.toList):DataW H)):s.size<=140737488351232:=by
 have:=h.str
 simpa [reachBytes]using this
end
section
variable {H:Type} {enc:TypeId×Value->H} {w:World} {base:Nat} {spare:Nat->Bool} {held:Bool}
theorem Pc{n:Nat}{cs:List Value}{D:DataW H}{Pl:List MemPlace}(h:DataW.trod enc prog w base spare held n 90 cs=some (D,Pl))(hs:fu prog 90 D):∃f,cs=fiC f/\f.topic.size<=140737488351232:=by
 obtain⟨x,E,rfl,m,b,p,a⟩:=Iy underlying90 h;simp only[bG]at m;obtain⟨rfl,rfl⟩:=m;have l:prog.cellsOf 90=5:=by kernel_rfl
 rw[l]at b
 match cs,b with
 | [c0,c1,c2,c3,c4],_=>
   match x,p with
   | [y0,y1,y2,y3,y4],_=>
     have q:=vz a 0 (t:=9) (o:=0) (k:=1) (by kernel_rfl);have r:=vz a 1 (t:=3) (o:=1) (k:=1) (by kernel_rfl);have s:=vz a 2 (t:=4) (o:=2) (k:=1) (by kernel_rfl);have u:=vz a 3 (t:=4) (o:=3) (k:=1) (by kernel_rfl);have v:=vz a 4 (t:=3) (o:=4) (k:=1) (by kernel_rfl);obtain⟨y,c,rfl,_⟩:=GH underlying9 q;obtain⟨z,d,rfl,_⟩:=GB underlying3 r;obtain⟨A,e,rfl⟩:=GN underlying4 s;obtain⟨B,g,rfl⟩:=GN underlying4 u;obtain⟨C,j,rfl,_⟩:=GB underlying3 v;simp only[Yl,ji,GG,GZ,gY,Hj]at c d e g j;subst c d e g j;exact⟨⟨y,z,A,B,C⟩,rfl,(hs.field underlying90 (i:=0) rfl rfl).text⟩
theorem PH(l:List Int):l.flatMap (fun z=>[Value.int .i64 z])=iv l:=by
 induction l with
 | nil=>rfl
 | cons z l ih=>simp only[YS,ih];rfl
theorem Mr{fuel:Nat}{cs:List Value}{d:DataW H}{ps:List MemPlace}(h:DataW.trod enc prog w base spare held fuel 24 cs=some (d,ps))(hs:fu prog 24 d)(hlt:∀x∈ps,x.block<w.heap.size):
  ∃(A:Option Addr) (l:List Int) (c:Nat),cs=[.slice A l.length c]/\Rd w w.heap.size 1 A l.length (iv l)/\l.length<=140737488351232/\l.length<=c:=by
 obtain⟨A,l,c,b,a,j,e,f,m⟩:=rX (X:=Int) (k:=1) (fun z=>[Value.int .i64 z]) (fun _=>rfl) (by omega) underlying24 (by kernel_rfl) (fun _=>True)
  (fun n cs D i h hs _=>by obtain⟨z,rfl,_⟩:=GB underlying3 h;exact⟨z,rfl,trivial⟩) h hs hlt
 rw[PH]at a;refine⟨A,l,c,b,a,?_,f⟩;have g:prog.bytesOf 3=8:=by kernel_rfl
 rw[g,reachBytes]at e;omega
theorem LB{fuel:Nat}{cs:List Value}{d:DataW H}{ps:List MemPlace}(h:DataW.trod enc prog w base spare held fuel 47 cs=some (d,ps))(hs:fu prog 47 d)(hlt:∀x∈ps,x.block<w.heap.size):
  ∃(A:Option Addr) (l:List Fi) (c:Nat),cs=[.slice A l.length c]/\Rd w w.heap.size 5 A l.length (fis l)/\(∀f∈l,f.topic.size<=140737488351232)/\l.length<=140737488351232/\l.length<=c:=by
 obtain⟨A,l,c,a,b,e,g,i,m⟩:=rX fiC yH (by omega) underlying47 (by kernel_rfl) (fun f=>f.topic.size<=140737488351232) (fun n cs D k h hs _=>Pc h hs) h hs hlt;refine⟨A,l,c,a,b,e,?_,i⟩;have j:prog.bytesOf 90=40:=by kernel_rfl
 rw[j,reachBytes]at g;omega
theorem Nr{n:Nat}{cs:List Value}{D:DataW H}{Pl:List MemPlace}(h:DataW.trod enc prog w base spare held n 46 cs=some (D,Pl))(hs:fu prog 46 D)(hlt:∀x∈Pl,x.block<w.heap.size):
  ∃(x:Wl) (k:Hd),cs=[.string x.topic,.string x.payload,.int .i64 x.qos,.bool x.retain,.slice k.a x.props.length k.c]/\Rd w w.heap.size 4 k.a x.props.length (prs x.props)/\(∀p∈x.props,ea p)/\x.props.length<=2932031007317/\x.props.length<=k.c/\x.topic.size<=140737488351232/\x.payload.size<=140737488351232:=by
 obtain⟨I,P,rfl,e,d,s,b⟩:=Iy underlying46 h;simp only[bG]at e;obtain⟨rfl,rfl⟩:=e;have r:prog.cellsOf 46=5:=by kernel_rfl
 rw[r]at d
 match cs,d with
 | [c0,c1,c2,c3,c4],_=>
   match I,s with
   | [y0,y1,y2,y3,y4],_=>
     have B:=vz b 0 (t:=9) (o:=0) (k:=1) (by kernel_rfl);have C:=vz b 1 (t:=9) (o:=1) (k:=1) (by kernel_rfl);have E:=vz b 2 (t:=3) (o:=2) (k:=1) (by kernel_rfl);have F:=vz b 3 (t:=4) (o:=3) (k:=1) (by kernel_rfl);have G:=vz b 4 (t:=44) (o:=4) (k:=1) (by kernel_rfl);obtain⟨J,f,rfl,_⟩:=GH underlying9 B;obtain⟨K,g,rfl,_⟩:=GH underlying9 C;obtain⟨L,j,rfl,_⟩:=GB underlying3 E;obtain⟨M,m,rfl⟩:=GN underlying4 F;obtain⟨N,O⟩:=y4;obtain⟨A,l,c,q,u,v,y,z,_⟩:=Ki G (hs.field underlying46 (i:=4) rfl rfl) (fun x e=>hlt x (by simp[e]));simp only[Yl,ji,GG,GZ,gY,Hj]at f g j m q;subst f g j m q;exact⟨⟨J,K,L,M,l⟩,⟨A,c⟩,rfl,u,v,y,z,(hs.field underlying46 (i:=0) rfl rfl).text,(hs.field underlying46 (i:=1) rfl rfl).text⟩
theorem Oj{n:Nat}{cs:List Value}{D:DataW H}{Pl:List MemPlace}(h:DataW.trod enc prog w base spare held n PkT cs=some (D,Pl))(hs:fu prog PkT D)(hlt:∀x∈Pl,x.block<w.heap.size):
  ∃(p:Pk) (k:Hs),cs=(pkC p k).toList/\PkIn w w.heap.size p k/\PkOk p:=by
 obtain⟨xs,n',rfl,b,c,Y,a⟩:=Iy underlying49 h;simp only[bG]at b;obtain⟨rfl,rfl⟩:=b;have X:prog.cellsOf PkT=25:=by kernel_rfl
 rw[X]at c
 match cs,c with
 | [c0,c1,c2,c3,c4,c5,c6,c7,c8,c9,c10,c11,c12,c13,c14,c15,c16,c17,c18,c19,c20,c21,c22,c23,c24],_=>
   match xs,Y with
   | [y0,y1,y2,y3,y4,y5,y6,y7,y8,y9,y10,y11,y12,y13,y14,y15,y16,y17,y18,y19,y20],_=>
     have h0:=vz a 0 (t:=3) (o:=0) (k:=1) (by kernel_rfl);have h1:=vz a 1 (t:=4) (o:=1) (k:=1) (by kernel_rfl);have h2:=vz a 2 (t:=4) (o:=2) (k:=1) (by kernel_rfl);have h3:=vz a 3 (t:=3) (o:=3) (k:=1) (by kernel_rfl);have h4:=vz a 4 (t:=3) (o:=4) (k:=1) (by kernel_rfl);have h5:=vz a 5 (t:=9) (o:=5) (k:=1) (by kernel_rfl);have h6:=vz a 6 (t:=9) (o:=6) (k:=1) (by kernel_rfl);have h7:=vz a 7 (t:=4) (o:=7) (k:=1) (by kernel_rfl);have h8:=vz a 8 (t:=3) (o:=8) (k:=1) (by kernel_rfl);have h9:=vz a 9 (t:=9) (o:=9) (k:=1) (by kernel_rfl);have M:=vz a 10 (t:=4) (o:=10) (k:=1) (by kernel_rfl);have N:=vz a 11 (t:=9) (o:=11) (k:=1) (by kernel_rfl);have O:=vz a 12 (t:=4) (o:=12) (k:=1) (by kernel_rfl);have P:=vz a 13 (t:=9) (o:=13) (k:=1) (by kernel_rfl);have Q:=vz a 14 (t:=4) (o:=14) (k:=1) (by kernel_rfl);have R:=vz a 15 (t:=46) (o:=15) (k:=5) (by kernel_rfl);have S:=vz a 16 (t:=4) (o:=20) (k:=1) (by kernel_rfl);have T:=vz a 17 (t:=3) (o:=21) (k:=1) (by kernel_rfl);have U:=vz a 18 (t:=24) (o:=22) (k:=1) (by kernel_rfl);have V:=vz a 19 (t:=47) (o:=23) (k:=1) (by kernel_rfl);have W:=vz a 20 (t:=44) (o:=24) (k:=1) (by kernel_rfl);obtain⟨z0,A,rfl,_⟩:=GB underlying3 h0;obtain⟨z1,B,rfl⟩:=GN underlying4 h1;obtain⟨z2,C,rfl⟩:=GN underlying4 h2;obtain⟨z3,E,rfl,_⟩:=GB underlying3 h3;obtain⟨z4,F,rfl,_⟩:=GB underlying3 h4;obtain⟨z5,G,rfl,_⟩:=GH underlying9 h5;obtain⟨z6,I,rfl,_⟩:=GH underlying9 h6;obtain⟨z7,J,rfl⟩:=GN underlying4 h7;obtain⟨z8,K,rfl,_⟩:=GB underlying3 h8;obtain⟨z9,L,rfl,_⟩:=GH underlying9 h9;obtain⟨ah,d,rfl⟩:=GN underlying4 M;obtain⟨ai,e,rfl,_⟩:=GH underlying9 N;obtain⟨aj,f,rfl⟩:=GN underlying4 O;obtain⟨ak,g,rfl,_⟩:=GH underlying9 P;obtain⟨am,j,rfl⟩:=GN underlying4 Q;obtain⟨bc,bg⟩:=y15;obtain⟨ag,Z,l,a1,a2,a3,a4,a5,a6⟩:=Nr R (hs.field underlying49 (i:=15) rfl rfl) (fun x b=>hlt x (by simp[b]));obtain⟨an,m,rfl⟩:=GN underlying4 S;obtain⟨ao,q,rfl,_⟩:=GB underlying3 T;obtain⟨bd,bh⟩:=y18;obtain⟨v,ad,aa,r,b1,b2,b3⟩:=Mr U (hs.field underlying49 (i:=18) rfl rfl) (fun x b=>hlt x (by simp[b]));obtain⟨be,bi⟩:=y19;obtain⟨y,ae,ab,s,f1,f2,f3,f4⟩:=LB V (hs.field underlying49 (i:=19) rfl rfl) (fun x b=>hlt x (by simp[b]));obtain⟨bf,bj⟩:=y20;obtain⟨z,af,ac,u,r1,r2,r3,r4,_⟩:=Ki W (hs.field underlying49 (i:=20) rfl rfl) (fun x b=>hlt x (by simp[b]));simp only[Yl,ji,GG,GZ,gY,Hj]at A B C E F G I J K L d e f g j l m q r s u;obtain⟨q0,q1,q2,q3,q4⟩:=l;subst A B C E F G I J K L d e f g j m q r s u q0 q1 q2 q3 q4;refine⟨⟨z0,z1,z2,z3,z4,z5,z6,z7,z8,z9,ah,ai,aj,ak,am,ag,an,ao,ad,ae,af⟩,⟨Z,⟨v,aa⟩,⟨y,ab⟩,⟨z,ac⟩⟩,rfl,⟨a1,b1,f1,r1,a4,b3,f4,r4⟩,⟨a2,r2,f2,⟨(hs.field underlying49 (i:=5) rfl rfl).text,(hs.field underlying49 (i:=6) rfl rfl).text,(hs.field underlying49 (i:=9) rfl rfl).text,(hs.field underlying49 (i:=11) rfl rfl).text,(hs.field underlying49 (i:=13) rfl rfl).text,a5,a6⟩,⟨aC a3 (by decide),b2,f3,aC r3 (by decide)⟩⟩⟩
end
end Go.Proofs.YtemooicddjimbaaGreatDoor
namespace Go.Proofs.YtemooicddjimbaaGreatDoor
open Go.RowKit Go.Proofs.Tryz
section
attribute [local go_sem ↓] bD bF bH bI bu
attribute [local go_sem] bc aD bh bg bK bJ bd aY be aO ax cI dC dB dt dj di dA dr dp dn bW co YK bZ YM cz cy cw cu YL YP YB bS bP bR
theorem Qo(v:Int)(p:Pk):(mqB v p).2=mqE v p:=by
 unfold mqB;split
 ·rename_i h;exact h.symm
 ·rfl
end
end Go.Proofs.YtemooicddjimbaaGreatDoor
