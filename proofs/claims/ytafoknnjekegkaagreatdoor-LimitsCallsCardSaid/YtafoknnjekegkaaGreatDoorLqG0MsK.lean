/- Parts: MsK, LcD, Laid, OpenI, OpenL. -/
import Derived.Test.YtafoknnjekegkaaGreatDoorLqG0MSubX
import Derived.Test.YtafoknnjekegkaaGreatDoorCards
import Derived.Test.YtafoknnjekegkaaGreatDoorTie
import Derived.ChangeVars
import Derived.LaidLaws
import Derived.LaidHandle
import Derived.SevenTiedAt
set_option maxRecDepth 10000
set_option maxHeartbeats 8000000
namespace Go.Proofs.YtafoknnjekegkaaGreatDoor
open Go.RowKit Go.Proofs.Tryz
section
theorem xX{v most:Int}:∀(N:Nat) (t:abO) (a k:Nat) (l:List Pk),t.size<=N->N<=1000000000000->(∀p∈l,PkOk p)->∀p∈(smG v most t a k l).1,PkOk p
 | N,t,a,k,l,hN,hb,hl=>by
   rw[fK];split
   ·rename_i h0;have h1:=jD h0;have c:(t.extract (smN v most t).2.1 t.size).size=t.size- (smN v most t).2.1:=by rw[aj];omega
    match N,hN,hb with
    | 0,hN,_=>omega
    | N+1,hN,hb=>
      refine xX N _ _ _ _ (by omega) (by omega) ?_;intro p b;rcases cj.1 b with b| b
      ·exact hl p b
      ·rw[gA.1 b];exact Fn (by omega)
   ·split
    ·exact hl
    ·exact hl
section
variable {w wb:abP} {v most md:Int} {ga gb gl:Nat} {R:List Pk×abO×Nat×Nat×Int} {A1:Option Addr} {m1 cm1:Nat} {L1:List (Pk×Hs)} {cv:Value} {C:List abO} {t:abO} {a k:Nat} {e:Int} {x y:abP}
end
theorem RdK.none(x:abP):RdK x none 0 []:=⟨Rd.nil _ _ _ _,by simp⟩
def acm(l:List Int)(u:Value)(y:abP):Prop:=∃A c,u= .slice A l.length c/\Rd y y.heap.size 1 A l.length (iv l)
theorem acm.keep{l:List Int}{u:Value}{x y:abP}(h:acm l u x)(hb:abQ x y):acm l u y:=by
 obtain⟨A,c,rfl,a⟩:=h;exact⟨A,c,rfl,(a.below hb).wider hb.size⟩
def acd(l:List abO)(u:Value)(y:abP):Prop:=∃A c,u= .slice A l.length c/\Rd y y.heap.size 1 A l.length (txv l)
theorem acd.keep{l:List abO}{u:Value}{x y:abP}(h:acd l u x)(hb:abQ x y):acd l u y:=by
 obtain⟨A,c,rfl,a⟩:=h;exact⟨A,c,rfl,(a.below hb).wider hb.size⟩
theorem acG(l:List Int)(A:Option Addr)(c:Nat)(x:abP)(h:Rd x x.heap.size 1 A l.length (iv l))(hl:l.length<=1000000):
  Calls prog 17 #[.slice A l.length c] x λe y=>∃u,e= .returned u/\acm l u y/\abQ x y:=
 (act l l.length rfl A c x h hl).mono (by
   rintro e y ⟨v,rfl,f,d⟩;obtain⟨a,b,rfl,-,g⟩:=jK f;exact⟨_,rfl,⟨a,b,rfl,g⟩,d⟩)
theorem acH(s:abO)(l:List Int)(u:Value)(x:abP)(h:acm l u x)(hl:l.length<=1000000)(hs:s.size<=140737488351232):
  Calls prog 16 #[.string s,u] x λe y=>∃u',e= .returned u'/\acd (lkL s (plL s.size l)) u' y/\abQ x y:=by
 obtain⟨A,c,rfl,a⟩:=h;refine(Xs s A l c x a hl hs).mono ?_;rintro e y ⟨v,rfl,g,f⟩;obtain⟨b,d,rfl,-,a⟩:=jK g;exact⟨_,rfl,⟨b,d,rfl,a⟩,f⟩
theorem acF(s:abO)(l:List Int)(A:Option Addr)(c:Nat)(x:abP)(h:Rd x x.heap.size 1 A l.length (iv l))(hl:l.length<=1000000)(hs:s.size<=140737488351232):
  Calls prog 18 #[.string s,.slice A l.length c] x λe y=>∃u',e= .returned u'/\acd (lkL s (plL s.size l)) u' y/\abQ x y:=by
 refine(ace s A l c x h hl hs).mono ?_;rintro e y ⟨v,rfl,f,d⟩;obtain⟨a,b,rfl,-,g⟩:=jK f;exact⟨_,rfl,⟨a,b,rfl,g⟩,d⟩
theorem acD(L:List abO)(u u':Value)(x:abP)(h:acd L u x)(h':acd L u' x)(hn:L.length<=9223372036854775807):
  abR 15 #[u,u'] x (.bool true):=by
 obtain⟨A,c,rfl,f⟩:=h;obtain⟨b,d,rfl,a⟩:=h';exact Xx A b _ _ c d L L x f a hn hn rfl
theorem acx{v mp md:Int}{s:abO}(hs:s.size<=1000000):∀p∈(lmS v mp md s).1,PkOk p:=by
 by_cases a:nF v mp md=true
 ·rw[Yb a];exact xX s.size s 0 0 [] (ac _) (by omega) (by simp)
 ·rw[XQ a];simp
theorem acE(mp md:Int):lmC mp md=lmE mp md:=rfl
theorem ab8(v mp md:Int)(p:Pk)(h:Hs)(s:abO)(A:Option Addr)(l:List Int)(c:Nat)(w:abP)(ip:PkIn w w.heap.size p h)(ok:PkOk p)(hr:Rd w w.heap.size 1 A l.length (iv l)):
  abR 3 #[.int .i64 v,zW mp md,pkV p h,.string s,.slice A l.length c] w (.bool true):=by
 have OK:=aa ok;have HR:=aa hr
 have b0:=(aq w.heap.size w).alloc (ac _) (.cells #[.int .i64 mp,.int .i64 md] 23);have k0:=Bk.fresh w 23 #[.int .i64 mp,.int .i64 md];have S0:=aa (((St.start w).below b0).push (ip.next b0));have HK:=aa (k0.alloc (.cells (pkC p h) PkT));rw[show(w.alloc (.cells #[.int .i64 mp,.int .i64 md] 23)).heap.size=w.heap.size+1 by simp]at S0;unfold zW;clear b0 k0 ip ok hr;go_enter func3,ntmps3;go_wp2_with fail;refine Yg (Xi _) λw1 d=>?_;have H:=aa (S0.o.below d);have t:=aa (Yh HK.o d)
 clear d S0 HK;have hl:=H.o.ld 0 rfl;go_wp2_with fail;refine Yg (Mw p h _ (H.o.into 0 rfl) OK.o) λw2 d=>?_;have E:=aa (H.o.below d);have i:=aa (Yh t.o d)
 clear d hl H t;cases hL:Ie p
 ·clear hL;go_wp2;go_ret;exact⟨rfl,E.o.kept⟩
 have HZ:=aa (LD v hL);clear hL;by_cases hs:3000<s.size
 ·have d2:(3000:Int)<(s.size:Int):=by omega
  clear hs;go_wp2;go_ret;exact⟨rfl,E.o.kept⟩
 have d2:(s.size:Int)<=3000:=by omega
 have T:Hid (s.size<=140737488351232):=aa (by omega);have D:Hid (s.size<=3000):=aa (by omega);clear hs;by_cases hn:60<l.length
 ·have d3:(60:Int)<(l.length:Int):=by omega
  clear hn;go_wp2;go_ret;exact⟨rfl,E.o.kept⟩
 have d3:(l.length:Int)<=60:=by omega
 have B:Hid (l.length<=1000000):=aa (by omega);have az:Hid ((lkL s (plL s.size l)).length<=9223372036854775807):=aa (by rw[XR];have:=XA s.size l;omega);clear hn;have c0:w2.cell? ⟨w.heap.size,0,none⟩=some (.int .i64 mp):=i.o.cell 0;have c1:w2.cell? ⟨w.heap.size,1,none⟩=some (.int .i64 md):=i.o.cell 1;have G:=aa (λW=>WS v mp md s W (by have:=D.o;omega));have CR:=aa (λW=>J9 v mp md s W (by have:=D.o;omega));have C:=aa (acx (v:=v) (mp:=mp) (md:=md) (s:=s) (by have:=D.o;omega));obtain⟨aF,F⟩:∃R,lmS v mp md s=R:=⟨_,rfl⟩;rw[F]at G CR C;unfold zW at G CR;clear F;go_wp2_with fail;refine(G.o _).mono ?_;rintro e w3 ⟨A1,n1,U,L1,rfl,ae,Y,d,-,ab⟩;have S3:=aa (E.o.below d);have j:=aa (Yh i.o d)
 have Q:=aa ae;have O:=aa Y;have aA:=aa ab
 clear d c0 c1 ae Y ab E i G;have c0:w3.cell? ⟨w.heap.size,0,none⟩=some (.int .i64 mp):=j.o.cell 0;have c1:w3.cell? ⟨w.heap.size,1,none⟩=some (.int .i64 md):=j.o.cell 1;dsimp only;go_wp2_with fail;refine(CR.o _).mono ?_;rintro e o ⟨A2,n2,V,L2,rfl,ag,Z,d,-,ad⟩;have m:=aa (S3.o.below d);have k:=aa (Yh j.o d)
 have aC:=aa ag;have P:=aa Z;have aB:=aa ad
 have ai:=aa (Q.o.below d);clear d c0 c1 ag Z ad S3 j CR Q;dsimp only;have aD:Hid (∀x,abQ o x->abR 8 #[.slice A1 n1 U,.slice A2 n2 V] x (.bool true)):=aa (λx a=>by
  have:=uh A1 A2 n1 n2 U V L1 L2 x (ai.o.below a) (aC.o.below a) (λz hz=>(C.o z.1 (by rw[<-O.o];exact r8 hz)).len) (λz hz=>(C.o z.1 (by rw[<-P.o];exact r8 hz)).len) (by have:=aA.o;omega) (by have:=aB.o;omega);rwa[au (O.o.trans P.o.symm)]at this)
 have q:=aa (λx=>WU mp md x);have ay:=aa (λx=>ZG mp md x);have L:=aa WX;have M:=aa ab7;have J:=aa (λx a=>WN v mp md p h x a OK.o HZ.o);have K:=aa (λx a=>acg v mp md p h x a OK.o HZ.o);have S:Hid (∀x,abQ o x->Rd x x.heap.size 1 A l.length (iv l)):=aa (λx a=>by
  have d:=Yf m.o.kept a;exact(HR.o.below d).wider d.size)
 have b:Hid (∀x,abQ o x->x.cell? ⟨w.heap.size,0,none⟩=some (.int .i64 mp)/\x.cell? ⟨w.heap.size,1,none⟩=some (.int .i64 md)/\(kZ (.pointer (some ⟨w.heap.size+1,0,none⟩))).run prog x= .ok (pkV p h) x):=aa (λx a=>
  ⟨(Yh k.o a).cell 0,(Yh k.o a).cell 1,(m.o.below a).ld 0 rfl⟩)
 unfold zW at q L M J K;rw[acE]at q;generalize lmE mp md=E15 at*;generalize WL v mp md p=F15 at*;obtain⟨⟨RP,RN,RE⟩,X⟩:∃r,aF=r:=⟨_,rfl⟩;rw[X];clear X;dsimp only;have N:=aa m.o.kept;go_upto_region 7 with fail
 apply Wq
 ·kernel_rfl
 ·intro n
  repeat (apply Wk
          focus (refine Or.inl ⟨rfl,λx a=>?_⟩;have g:=b.o x a;go_simp;(try with_reducible rfl);done)
          try simp only[Act.put,af,am,ak])
  apply Wm (λx a _=>aD.o x a)
  ·rfl
  ·intro x a;have g:=b.o x a;go_simp
  repeat (apply Wk
          focus (refine Or.inl ⟨rfl,λx a=>?_⟩;have g:=b.o x a;go_simp;(try with_reducible rfl);done)
          try simp only[Act.put,af,am,ak])
  apply Wm (λx _ _=>q.o x)
  ·rfl
  ·intro x a;have g:=b.o x a;go_simp
  repeat (apply Wk
          focus (refine Or.inl ⟨rfl,λx a=>?_⟩;have g:=b.o x a;go_simp;(try with_reducible rfl);done)
          try simp only[Act.put,af,am,ak])
  apply Wm (λx _ _=>ay.o x)
  ·rfl
  ·intro x a;have g:=b.o x a;go_simp
  repeat (apply Wk
          focus (refine Or.inl ⟨rfl,λx a=>?_⟩;have g:=b.o x a;go_simp;(try with_reducible rfl);done)
          try simp only[Act.put,af,am,ak])
  apply Wm (λx _ _=>L.o x)
  ·rfl
  ·intro x a;have g:=b.o x a;go_simp
  repeat (apply Wk
          focus (refine Or.inl ⟨rfl,λx a=>?_⟩;have g:=b.o x a;go_simp;(try with_reducible rfl);done)
          try simp only[Act.put,af,am,ak])
  apply Wm (λx _ _=>M.o x)
  ·rfl
  ·intro x a;have g:=b.o x a;go_simp
  repeat (apply Wk
          focus (refine Or.inl ⟨rfl,λx a=>?_⟩;have g:=b.o x a;go_simp;(try with_reducible rfl);done)
          try simp only[Act.put,af,am,ak])
  apply Wm (λx a _=>J.o x ((m.o.below a).into 0 rfl))
  ·rfl
  ·intro x a;have g:=b.o x a;go_simp
  repeat (apply Wk
          focus (refine Or.inl ⟨rfl,λx a=>?_⟩;have g:=b.o x a;go_simp;(try with_reducible rfl);done)
          try simp only[Act.put,af,am,ak])
  apply Wm (λx a _=>K.o x ((m.o.below a).into 0 rfl))
  ·rfl
  ·intro x a;have g:=b.o x a;go_simp
  repeat (apply Wk
          focus (refine Or.inl ⟨rfl,λx a=>?_⟩;have g:=b.o x a;go_simp;(try with_reducible rfl);done)
          try simp only[Act.put,af,am,ak])
  apply ab5 (λu y=>acm l u y) (λ_ _ _ h d=>acm.keep h d) (λx a _=>acG l A c x (S.o x a) B.o)
  ·rfl
  ·intro x a;have g:=b.o x a;go_simp
  repeat (apply Wk
          focus (refine Or.inl ⟨rfl,λx a=>?_⟩;have g:=b.o x a;go_simp;(try with_reducible rfl);done)
          try simp only[Act.put,af,am,ak])
  apply ab5 (f:=16) (args:=#[.string s,n 39]) (λu y=>acd (lkL s (plL s.size l)) u y) (λ_ _ _ h d=>acd.keep h d) (λx a I=>acH s l (n 39) x (I 39 (by kernel_rfl)) B.o T.o)
  ·rfl
  ·intro x a;have g:=b.o x a;go_simp
  repeat (apply Wk
          focus (refine Or.inl ⟨rfl,λx a=>?_⟩;have g:=b.o x a;go_simp;(try with_reducible rfl);done)
          try simp only[Act.put,af,am,ak])
  apply ab5 (λu y=>acd (lkL s (plL s.size l)) u y) (λ_ _ _ h d=>acd.keep h d) (λx a _=>acF s l A c x (S.o x a) B.o T.o)
  ·rfl
  ·intro x a;have g:=b.o x a;go_simp
  repeat (apply Wk
          focus (refine Or.inl ⟨rfl,λx a=>?_⟩;have g:=b.o x a;go_simp;(try with_reducible rfl);done)
          try simp only[Act.put,af,am,ak])
  apply Wm (f:=15) (args:=#[n 40,n 43]) (v:=.bool true) (λx a I=>acD (lkL s (plL s.size l)) (n 40) (n 43) x (I 40 (by kernel_rfl)) (I 43 (by kernel_rfl)) az.o)
  ·rfl
  ·intro x a;have g:=b.o x a;go_simp
  repeat (apply Wk
          focus (refine Or.inl ⟨rfl,λx a=>?_⟩;have g:=b.o x a;go_simp;(try with_reducible rfl);done)
          try simp only[Act.put,af,am,ak])
  apply Wz;intro x a _;go_wp2;go_ret;exact⟨rfl,Yf N.o a⟩
 ·kernel_rfl
end
end Go.Proofs.YtafoknnjekegkaaGreatDoor
namespace Go.Proofs.YtafoknnjekegkaaGreatDoor
open Go.ChangeShapes Go.WideShapes Go.ChangeAt Go.RowKit
open Go.Proofs.Tryz
def vh(c:Array Value):Obj->Obj
 | .cells _ t frozen=>.cells c t frozen
 | o=>o
def firstCells:Array Value:=(Go.Pinned.utf8FirstZ.map fun(n:Nat)=>Value.int .u8 n).toArray
def wI:Array Value:=#[.int .u8 128,.int .u8 191,.int .u8 160,.int .u8 191,.int .u8 128,.int .u8 159,.int .u8 144,.int .u8 191,.int .u8 128,.int .u8 143,
 .int .u8 0,.int .u8 0,.int .u8 0,.int .u8 0,.int .u8 0,.int .u8 0,.int .u8 0,.int .u8 0,.int .u8 0,.int .u8 0,.int .u8 0,.int .u8 0,.int .u8 0,.int .u8 0,.int .u8 0,.int .u8 0,.int .u8 0,.int .u8 0,.int .u8 0,.int .u8 0,.int .u8 0,.int .u8 0]
noncomputable def l7(os:Os):abP:=
 {World.holding prog os ⟨#[],#[],[]⟩with heap:=((World.holding prog os ⟨#[],#[],[]⟩).heap.modify 1 (vh firstCells)).modify 2 (vh wI)}
theorem qu(os:Os)(args:Array Value):laidMetH prog [("unicode/utf8.acceptRanges",Rows.laid_unicode_utf8_acceptRanges),("unicode/utf8.first",Rows.laid_unicode_utf8_first)] ((l7 os).forCall (λ_ _=>0) ⟨#[],args,[]⟩).memory:=
 laidMetH_of_parts (laidMet_of_run' 8 (by kernel_rfl) (by kernel_rfl)) (by kernel_rfl)
end Go.Proofs.YtafoknnjekegkaaGreatDoor
namespace Go.Proofs.YtafoknnjekegkaaGreatDoor.OI
open Go.Proofs.YtafoknnjekegkaaGreatDoor
open Go.ChangeShapes Go.WideShapes Go.ChangeAt Go.RowKit Go.Deep
open Go.Proofs.Tryz
section
variable {H:Type} {enc:TypeId×Value->H} {P:Program} {w:abP} {base:Nat} {spare:Nat->Bool} {held:Bool}
def fu(P:Program)(t:TypeId)(d:DataW H):Prop:=∀z∈d.weights P t,z<=reachBytes
theorem fJ{e:TypeId}:∀ {ds:List (DataW H)} {d:DataW H},d∈ds->∀z∈d.weights P e,z∈DataW.weightsAll P e ds
 | [],_,h,_,_=>by simp at h
 | x :: ds,d,h,z,hz=>by
   unfold DataW.weightsAll;rcases ie.1 h with rfl| h
   ·exact cj.2 (.inl hz)
   ·exact cj.2 (.inr (fJ h z hz))
theorem fu.elem{t e:TypeId}{l r:List (DataW H)}(ht:P.underlying t=some (.slice e))(h:fu P t (.slice l r)){d:DataW H}(hd:d∈l):fu P e d:=λz a=>h z (by
 simp only[DataW.weights,ht];exact kV _ (cj.2 (.inl (fJ hd z a))))
theorem fu.len{t e:TypeId}{l r:List (DataW H)}(ht:P.underlying t=some (.slice e))(h:fu P t (.slice l r)):l.length*P.bytesOf e<=reachBytes:=by
 have:=h ((l.length+r.length)*P.bytesOf e) (by simp[DataW.weights,ht]);exact aC (iH _ (by omega)) this
theorem fu.str{t:TypeId}{s:List UInt8}(h:fu P t (.lit (.string s):DataW H)):s.length<=reachBytes:=h _ (by simp[DataW.weights])
theorem sized_at{ts:List TypeId}{ds:List (DataW H)}(h:(DataW.weightsEach P ts ds).all (· <=reachBytes)=true){j:Nat}{t:TypeId}{d:DataW H}(ht:ts[j]? =some t)(hd:ds[j]? =some d):fu P t d:=λz a=>by
 have:=dL.1 h _ (DataW.weights_mem_each ht hd z a)
 simpa using this
theorem iA{X:Type}{k:Nat}{C:X->List Value}(hk:∀x,(C x).length=k):∀l:List X,(l.flatMap C).length=l.length*k
 | []=>by simp
 | x :: l=>by
   rw[YS,List.length_append,hk,iA hk l,bM,iK];omega
theorem kQ{X:Type}{k:Nat}{C:X->List Value}(hk:∀x,(C x).length=k):∀(l:List X) (i r:Nat) (h:i<l.length),r<k->(l.flatMap C)[i*k+r]? =(C l[i])[r]?
 | x :: l,0,r,_,hr=>by
   rw[jU,bV,YS,jd (by rw[hk];exact hr)];rfl
 | x :: l,i+1,r,h,hr=>by
   have ih:=kQ hk l i r (by simpa using h) hr;rw[YS,iM (by rw[hk,iK];omega),hk];rw[show(i+1)*k+r- k=i*k+r by rw[iK];omega];exact ih
theorem rX{X:Type}[Inhabited X]{k:Nat}(C:X->List Value)(hk:∀x,(C x).length=k)(hk0:0<k){t e:TypeId}(ht:P.underlying t=some (.slice e))(hc:P.cellsOf e=k)(good:X->Prop)
  (hel:∀(n:Nat) (cs:List Value) (D:DataW H) (Pl:List MemPlace),DataW.trod enc P w base spare held n e cs=some (D,Pl)->fu P e D->(∀x∈Pl,x.block<w.heap.size)->∃x,cs=C x/\good x)
  {fuel:Nat}{cs:List Value}{d:DataW H}{ps:List MemPlace}(h:DataW.trod enc P w base spare held fuel t cs=some (d,ps))(hs:fu P t d)(hlt:∀x∈ps,x.block<w.heap.size):
  ∃(A:Option Addr) (l:List X) (c:Nat),cs=[.slice A l.length c]/\Rd w w.heap.size k A l.length (l.flatMap C)/\(∀x∈l,good x)/\l.length*P.bytesOf e<=reachBytes/\l.length<=c/\c<=maxLen:=by
 rcases open_slice ht h with ⟨rfl,_⟩ | ⟨a,len,cap,m,n,D,Pl,rfl,_,V,Q,G,p,N⟩
 ·exact⟨none,[],0,rfl,Rd.nil _ _ _ _,by simp,by simp,ac _,by unfold maxLen;omega⟩
 ·simp only[bG]at p;obtain⟨rfl,rfl⟩:=p;have T:len<=m:=by rw[G];split<;>omega
  have s:∀i,i<len->∃x,good x/\∀r u,(C x)[r]? =some u->w.cell? (a.add (i*k+r))=some u:=by
   intro i o;obtain⟨z,B,K⟩:=N i (by omega);obtain⟨x,rfl,M⟩:=hel n z _ _ K (hs.elem ht (jX.2 ⟨i,gn.2 o,rfl⟩)) (λy S=>hlt y (cj.2 (.inr (ou.2 ⟨i,gn.2 (by omega),S⟩))));refine⟨x,M,λr u g=>?_⟩;rw[hc]at B;obtain⟨_,U,L⟩:=World.cells?_some B;have R:r<k:=by
    rcases fj r k with h| h
    ·exact h
    ·rw[aG (by rw[hk];exact h)]at g;cases g
   have:=L r R;rw[add_add]at this;rw[this,g]
  obtain⟨f,E⟩:=choose_lt s;have b:((List.range len).map f).length=len:=by simp
  refine⟨some a,(List.range len).map f,cap,by rw[b],?_,?_,?_,by omega,Q⟩
  ·by_cases J:len=0
   ·subst J;exact Rd.nil _ _ _ _
   ·rw[b];refine qX (by rw[iA hk,b]) ?_ ?_
    ·have v:(MemPlace.cell a.block a.off)∈MemPlace.row a (m*P.cellsOf e):=by
      refine MemPlace.mem_row.2 ⟨0,?_,by simp⟩;rw[hc];exact Nat.mul_pos (by omega) hk0
     exact hlt _ (cj.2 (.inl v))
    ·intro j u g;have O:j<len*k:=by
      rcases fj j (len*k)with h| h
      ·exact h
      ·rw[aG (by rw[iA hk,b];exact h)]at g;cases g
     have q:j/ k<len:=iJ (by rw[eV];exact O);have I:j% k<k:=iI _ hk0;have e:j=j/ k*k+j% k:=by rw[eV];exact(Nat.div_add_mod j k).symm
     rw[e,kQ hk _ _ _ (by rw[b];exact q) I]at g;rw[e];exact(E _ q).2 _ _ (by simpa using g)
  ·intro x p;obtain⟨i,F,rfl⟩:=jX.1 p;exact(E i (gn.1 F)).1
  ·have:=hs.len ht
   simpa using this
theorem Ms{fs:Array Field}{n:Nat}{cs:List Value}{xs:List (DataW H×List MemPlace)}(hone:oneCellFields P fs=true)
  (hf:∀(i:Nat) (f:Field),fs[i]? =some f->DataW.trod enc P w base spare held n f.type ((cs.drop f.offset).take (P.cellsOf f.type))=xs[i]?):
  ∀(i:Nat) (f:Field),fs[i]? =some f->DataW.trod enc P w base spare held n f.type ((cs.drop i).take 1)=xs[i]? :=by
 intro i f a;obtain⟨c,b⟩:=hone_of hone i f a;have:=hf i f a;rwa[c,b]at this
end
section
variable {H:Type} {enc:TypeId×Value->H} {w:abP} {base:Nat} {spare:Nat->Bool} {held:Bool}
theorem CH{X:Type}(c:X->Value)(l:List X):l.flatMap (λz=>[c z])=l.map c:=by
 induction l with
 | nil=>rfl
 | cons z l ih=>simp only[YS,ih];rfl
theorem open_intsV{r:Reach}{b0:Nat}{v:Value}{d:DataW H}{ps:List MemPlace}(hval:Value.okWide prog w r b0 27 v)(hd:DataW.Trod enc prog w base spare held 27 v d ps)(hs:fu prog 27 d)(hlt:∀x∈ps,x.block<w.heap.size):
  ∃(A:Option Addr) (l:List Int) (c:Nat),v= .slice A l.length c/\Rd w w.heap.size 1 A l.length (iv l)/\(∀z∈l,(Lit.int .i64 z).wf=true)/\l.length<=140737488351232/\l.length<=c/\c<=maxLen:=by
 obtain⟨a,len,cap,rfl⟩:=okWide_slice underlying27 hval;obtain⟨f,p⟩:=hd;obtain⟨A,l,c,b,e,g,i,j,m⟩:=rX (X:=Int) (k:=1) (λz=>[Value.int .i64 z]) (λ_=>rfl) (by omega) underlying27 (by kernel_rfl) (λz=>(Lit.int .i64 z).wf=true)
  (λn t D s h hs _=>by obtain⟨z,rfl,_,q⟩:=GB underlying3 h;exact⟨z,rfl,q⟩) p hs hlt
 rw[CH]at e;simp[Value.cells]at b;obtain⟨rfl,rfl,rfl⟩:=b;refine⟨a,l,cap,rfl,e,g,?_,j,m⟩;have o:prog.bytesOf 3=8:=by kernel_rfl
 rw[o,reachBytes]at i;omega
end
end Go.Proofs.YtafoknnjekegkaaGreatDoor.OI
namespace Go.Proofs.YtafoknnjekegkaaGreatDoor
open Go.ChangeShapes Go.WideShapes Go.ChangeAt Go.RowKit Go.Deep
open Go.Proofs.Tryz
set_option maxRecDepth 100000
section
variable {H:Type} {enc:TypeId×Value->H} {w:abP} {base:Nat} {spare:Nat->Bool} {held:Bool}
theorem BU{n:Nat}{cs:List Value}{D:DataW H}{Pl:List MemPlace}(h:DataW.trod enc prog w base spare held n 23 cs=some (D,Pl)):∃a b:Int,cs=[.int .i64 a,.int .i64 b]:=by
 obtain⟨p,s,rfl,i,c,j,g⟩:=Iy underlying23 h;simp only[bG]at i;obtain⟨rfl,rfl⟩:=i;have f:prog.cellsOf 23=2:=by kernel_rfl
 rw[f]at c
 match cs,c with
 | [c0,c1],_=>
   match p,j with
   | [y0,y1],_=>
     have l:=vz g 0 (t:=3) (o:=0) (k:=1) (by kernel_rfl);have m:=vz g 1 (t:=3) (o:=1) (k:=1) (by kernel_rfl);obtain⟨q,d,rfl,_⟩:=GB underlying3 l;obtain⟨r,e,rfl,_⟩:=GB underlying3 m;simp only[Yl,ji,GG,GZ,gY,Hj]at d e;subst d e;exact⟨q,r,rfl⟩
theorem te{r:Reach}{b0:Nat}{v:Value}{d:DataW H}{ps:List MemPlace}(hval:Value.okWide prog w r b0 23 v)(hd:DataW.Trod enc prog w base spare held 23 v d ps):
  ∃a b:Int,v= .agg #[.int .i64 a,.int .i64 b]:=by
 have i:∃c,v= .agg c:=by
  simp only[Value.okWide,show prog.underlying 23=_ from underlying23]at hval;obtain⟨c,h,_⟩:=hval;exact⟨c,h⟩
 obtain⟨c,rfl⟩:=i;obtain⟨f,g⟩:=hd;obtain⟨a,b,e⟩:=BU g;refine⟨a,b,?_⟩;have e:c.toList=(#[.int .i64 a,.int .i64 b]:Array Value).toList:=e;rw[oz.1 e]
end
