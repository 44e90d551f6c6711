/- Parts: MsB, MsD, MsP, MsE, MsQ, LmA, MsC, OpenK, MqH, MqK, PkS, MqL. -/
import Derived.Test.YtmohmcgbejojcaaGreatDoorTsG0PkR
import Derived.OwnWalk
set_option maxRecDepth 10000
set_option maxHeartbeats 8000000
namespace Go.Proofs.YtmohmcgbejojcaaGreatDoor
open Go.RowKit Go.Proofs.Tryz
section
abbrev SmT:TypeId:=77
def smC(v most:Int)(K:Option Addr)(n c a k:Nat)(e:Int):Array Value:=#[.int .i64 v,.int .i64 most,.slice K n c,.int .i64 a,.int .i64 k,.int .i64 e]
def hdC(k f n:Int):Array Value:=#[.int .i64 k,.int .i64 f,.int .i64 n]
def Gs(b:Bool)(v:Value):Sem Value:=Instr.alloc 86 b v
def AY(a v:Value):Sem Unit:=Instr.storeAt 86 a v
theorem DJ(b:Bool)(v:Value):Instr.alloc 86 b v=Gs b v:=rfl
theorem DH(a v:Value):Instr.storeAt 86 a v=AY a v:=rfl
theorem Br(w:abP):(Gs true (.tuple #[])).run prog w= .ok (.pointer (some ⟨w.heap.size,0,none⟩)) (w.alloc (.cells (hdC 0 0 0) 86)):=by kernel_rfl
theorem Ez:(prog.info? 86).map (·.size)=some 3:=by kernel_rfl
theorem AR{w:abP}{g:Nat}{k f n:Int}(hb:Bk w g 86 (hdC k f n)):w.there g 0 3:=λj a=>by
 rw[bV,hb.cell,hb.free];refine⟨?_,rfl⟩;rw[eL (by exact a)];rfl
def rR(w:abP)(g:Nat)(k f n:Int):abP:=w.setCells g 0 (hdC k f n).toList
theorem uj{w:abP}{g:Nat}{k0 f0 n0:Int}(hb:Bk w g 86 (hdC k0 f0 n0))(k f n:Int):(AY (.pointer (some ⟨g,0,none⟩)) (.agg #[.int .i64 k,.int .i64 f,.int .i64 n])).run prog w= .ok () (rR w g k f n):=by
 unfold AY;exact run_storeAt_mid w g 0 86 (hdC k f n) (AR hb) Ez (by simp[hdC,Value.oneCell'])
theorem BF{w:abP}{g:Nat}{k0 f0 n0:Int}(hb:Bk w g 86 (hdC k0 f0 n0))(k f n:Int):Bk (rR w g k f n) g 86 (hdC k f n):=((hb.put 0 (.int .i64 k)).put 1 (.int .i64 f)).put 2 (.int .i64 n)
theorem uL(w:abP)(k0 f0 n0 k f n:Int):rR (w.alloc (.cells (hdC k0 f0 n0) 86)) w.heap.size k f n=w.alloc (.cells (hdC k f n) 86):=by
 unfold rR;rw[io,qa (cs:=hdC k0 f0 n0) (ds:=hdC k f n) rfl]
theorem pR(w:abP)(k f n:Int):(AY (.pointer (some ⟨w.heap.size,0,none⟩)) (.agg #[.int .i64 k,.int .i64 f,.int .i64 n])).run prog (w.alloc (.cells (hdC 0 0 0) 86))= .ok () (w.alloc (.cells (hdC k f n) 86)):=by
 rw[uj (Bk.fresh w 86 (hdC 0 0 0)),uL]
attribute [local go_sem ↓] DJ DH
attribute [local go_sem] Br pR
def Gb(w:abP)(h:Hdr)(a:Nat)(x:Int)(pz az ez:Value)(wx:abP):Prop:=∃g,pz= .pointer (some ⟨g,0,none⟩)/\az= .int .i64 a/\ez= .int .i64 x/\Bk wx g 86 (hdC h.k h.f h.n)/\abQ w wx
theorem vW{w w3:abP}(h:Hdr)(a:Nat)(x:Int)(hb:Below (w.alloc (.cells (hdC 0 0 0) 86)).drew.heap.size (w.alloc (.cells (hdC 0 0 0) 86)).drew w3):
  (AY (.pointer (some ⟨w.heap.size,0,none⟩)) (.agg #[.int .i64 h.k,.int .i64 h.f,.int .i64 h.n])).run prog w3= .ok () (rR w3 w.heap.size h.k h.f h.n)/\Gb w h a x (.pointer (some ⟨w.heap.size,0,none⟩)) (.int .i64 a) (.int .i64 x) (rR w3 w.heap.size h.k h.f h.n):=by
 have b:abQ w (w.alloc (.cells (hdC 0 0 0) 86)).drew:=aV ((aq w.heap.size w).alloc (ac _) _) 1;have e:=Yf b hb;have c:Bk (w.alloc (.cells (hdC 0 0 0) 86)).drew w.heap.size 86 (hdC 0 0 0):=(Bk.fresh w _ _).drewN 1;have d:=Yh c hb;exact⟨uj d _ _ _,w.heap.size,rfl,rfl,rfl,BF d _ _ _,((e.setCell (ac _) _).setCell (ac _) _).setCell (ac _) _⟩
theorem yS{w w3:abP}(h:Hdr)(a:Nat)(x:Int)(hb:Below w.drew.heap.size w.drew w3):
  Gb w h a x (.pointer (some ⟨w3.heap.size,0,none⟩)) (.int .i64 a) (.int .i64 x) (w3.alloc (.cells (hdC h.k h.f h.n) 86)):=
 ⟨w3.heap.size,rfl,rfl,rfl,Bk.fresh _ _ _,((aV (aq w.heap.size w) 1).trans hb).alloc hb.size _⟩
theorem pM(v most:Int)(g:Nat)(K:Option Addr)(n c a k:Nat)(e:Int)(t:abO)(w0 w:abP)(hb:Bk w g SmT (smC v most K n c a k e))(hk:Kp w0 w K n c (ls t))(ht:t.size<=1000000000000):
  Calls prog 35 #[.pointer (some ⟨g,0,none⟩)] w λe' w'=>e'= .returned (.tuple #[.int .i64 ((smZ v t).1:Nat),.int .i64 (smZ v t).2])/\abQ w w':=by
 have HT:=aa ht;have H:=aa hb;have J:=aa hk
 have X:Hid (t.size=n):=aa (by rw[<-aN];exact hk.len);have C:Hid (smZ v t=if(hdR v (t.extract 0 (min t.size 5))).2.2≠0 then(0,(hdR v (t.extract 0 (min t.size 5))).2.2)
  else((hdR v (t.extract 0 (min t.size 5))).2.1+(hdR v (t.extract 0 (min t.size 5))).1.n,0)):=aa rfl
 obtain⟨m,S⟩:∃m,min t.size 5=m:=⟨_,rfl⟩;rw[S]at C;have q:Hid (m<=n/\m<=5/\(m=n\/m=5)):=aa (by have:=X.o;omega);have Q:Hid (∀W,abQ w W->(convert 75 9 (.slice K m c)).run prog W= .ok (.string (t.extract 0 m)) W):=aa (λW E=>by
  have R:=((J.o.below E).rd).cut_to q.o.1;rw[Y8,lM]at R;have h2:=ni (P:=prog) 75 9 U8 underlying75 underlying5 underlying9 c R;rw[h2]
  congr 2
  apply eX;rw[jo];have:=Ym t 0 m;rw[bV,Yl]at this;exact this.symm)
 have o:=aa (λW=>qy v (t.extract 0 m) W (by rw[aj];have:=q.o;omega));clear hb hk ht S;have D:Hid ((hdR v (t.extract 0 m)).2.2=0->(hdR v (t.extract 0 m)).1.n<=268435455/\(hdR v (t.extract 0 m)).2.1<=5):=aa (λu=>by
  obtain⟨b1,b2,b3,b4,Z⟩:=kw (v:=v) (s:=t.extract 0 m) (h:=(hdR v (t.extract 0 m)).1) (a:=(hdR v (t.extract 0 m)).2.1) (by rw[<-u]);rw[aj]at Z;have:=q.o;exact⟨b2,by omega⟩)
 obtain⟨⟨⟨hk,F,j⟩,A,B⟩,T⟩:∃r,hdR v (t.extract 0 m)=r:=⟨_,rfl⟩;rw[T]at C o D;dsimp only at D;simp only[Cx]at C o;clear T;have z:Hid (abQ w w.drew):=aa (aV (aq w.heap.size w) 1);have y:Hid (abQ w (w.alloc (.cells (hdC 0 0 0) 86)).drew):=aa (aV ((aq w.heap.size w).alloc (ac _) _) 1);have f:Hid (∀W,abQ w W->W.cell? ⟨g,0,none⟩=some (.int .i64 v)/\W.cell? ⟨g,2,none⟩=some (.slice K n c)/\(convert 75 9 (.slice K m c)).run prog W= .ok (.string (t.extract 0 m)) W):=aa (λW E=>⟨(Yh H.o E).cell 0,(Yh H.o E).cell 2,Q.o W E⟩);have U:=λW=>Bi (P:=prog) (t:=75) (e:=U8) (s:=1) underlying75 (λW=>by kernel_rfl) K n c m (aC q.o.1 J.o.cap) W;have N:min (n:Int) 5=(m:Int):=by have:=q.o;omega
 go_enter func35,ntmps35;go_wp2_with fail;go_cut [4,5,6] (λpz Y ez wx=>Gb w ⟨hk,F,j⟩ A B pz Y ez wx)
 case first=>
  refine je (λw'=>w'.cell? ⟨g,0,none⟩=some (.int .i64 v)/\w'.cell? ⟨g,2,none⟩=some (.slice K n c)/\(convert 75 9 (.slice K m c)).run prog w'= .ok (.string (t.extract 0 m)) w') [] (by kernel_rfl) ?_;have b:=f.o w.drew z.o;refine Yi 0 [] rfl b ?_;refine Yi 1 [] rfl b ?_;refine Yi 2 [] rfl b ?_;refine Yi 3 [] rfl b ?_;refine Yi 4 [] rfl b ?_;refine Yi 5 [] rfl b ?_;refine Yi 6 [] rfl b ?_;refine Yi 7 [] rfl b ?_;refine Yi 8 [] rfl b ?_;refine Yi 9 [] rfl b ?_;refine Yi 10 [] rfl b ?_;refine Yi 11 [] rfl b ?_;refine Yi 12 [] rfl b ?_;refine Yi 13 [] rfl b ?_;refine Yi 14 [] rfl b ?_;refine Yi 15 [] rfl b ?_;refine cq (rs:=[16,21]) (by kernel_rfl) (by simp) (ep.cons rfl (λK d=>?mx) (ep.cons rfl (λK d=>?my) ep.nil))
  case mx=>
   go_simp;go_at_call 55;refine Yg (o.o _) λO i=>?_;have l:=aa (Yf z.o i);have I:=aa (yS ⟨hk,F,j⟩ A B i);clear i b;have b:=f.o O l.o;go_simp;refine d.out _ _ (λ_=>b) ?_;clear d K;refine Yi 17 [] rfl b ?_;refine Yi 18 [] rfl b ?_;refine Yi 19 [] rfl b ?_;refine Yi 20 [] rfl b ?_;refine Up 21 rfl (λK d=>?_);go_simp;clear b;have b:=f.o _ (l.o.alloc l.o.size (.cells (hdC 0 0 0) 86));refine d.out _ _ (λ_=>b) ?_;clear d K;refine Up 22 rfl (λK d=>?_);go_simp;clear b;have b:=f.o _ (l.o.alloc l.o.size (.cells (hdC hk F j) 86));refine d.out _ _ (λ_=>b) ?_;clear d K;refine Up 23 rfl (λK d=>?_);go_simp;refine d.out _ _ (λ_=>b) ?_;clear d K;refine Up 24 rfl (λK d=>?_);go_simp;refine d.out _ _ (λ_=>b) ?_;clear d K;refine oh (by kernel_rfl) ?_ _;go_wp2;go_meet
   case rel=>exact I.o
  case my=>
   go_simp;clear b;have b:=f.o _ y.o;refine d.out _ _ (λ_=>b) ?_;clear d K;refine Up 16 rfl (λK d=>?_);go_simp;go_at_call 55;refine Yg (o.o _) λO i=>?_;have l:=aa (Yf y.o i);have I:=aa (vW ⟨hk,F,j⟩ A B i);clear i b;have b:=f.o O l.o;go_simp;refine d.out _ _ (λ_=>b) ?_;clear d K;refine Yi 17 [] rfl b ?_;refine Yi 18 [] rfl b ?_;refine Yi 19 [] rfl b ?_;refine Yi 20 [] rfl b ?_;refine Up 22 rfl (λK d=>?_);have V:=I.o.1;go_simp;clear b V;have b:=f.o _ (((l.o.setCell (p:=⟨w.heap.size,0,none⟩) (ac _) (.int .i64 hk)).setCell (p:=⟨w.heap.size,1,none⟩) (ac _) (.int .i64 F)).setCell (p:=⟨w.heap.size,2,none⟩) (ac _) (.int .i64 j));refine d.out _ _ (λ_=>b) ?_;clear d K;refine Up 23 rfl (λK d=>?_);go_simp;refine d.out _ _ (λ_=>b) ?_;clear d K;refine Up 24 rfl (λK d=>?_);go_simp;refine d.out _ _ (λ_=>b) ?_;clear d K;refine oh (by kernel_rfl) ?_ _;go_wp2;go_meet
   case rel=>exact I.o.2
 obtain⟨gh,rfl,rfl,rfl,G,L⟩:=hcut;have KX:=aa G;have BX:=aa L
 have x2:wc.cell? ⟨gh,2,none⟩=some (.int .i64 j):=G.cell 2;clear G L U N o Q f z y;by_cases u:B=0;rotate_left
 ·have M:Hid (smZ v t=(0,B)):=aa (by rw[C.o,if_pos u]);have e0:(B !=0)=true:=aA.2 u;clear u;go_wp2;go_ret2;exact⟨by rw[M.o];rfl,BX.o⟩
 ·have M:Hid (smZ v t=(A+j,0)):=aa (by rw[C.o,Fl (λx=>x u)]);subst u;have d1:(A:Int)+(j:Int)<=9223372036854775807:=by have:=D.o (by first| rfl| trivial);omega
  have d2: -9223372036854775808<=(A:Int)+(j:Int):=by omega
  go_wp2;go_ret2;refine⟨?_,BX.o⟩;rw[M.o];simp
end
section
theorem wn(v most:Int)(g:Nat)(K:Option Addr)(n c a k z:Nat)(e:Int)(w:abP)(hb:Bk w g SmT (smC v most K n c a k e))(hz:z<=n)(hc:n<=c)(ha:a<=1000000000000)(hk:k<=1000000000000)(hn:n<=1000000000000):
  Calls prog 23 #[.pointer (some ⟨g,0,none⟩),.int .i64 z] w λe' w'=>e'= .returned (.tuple #[])/\Bk w' g SmT (smC v most (xt K n z 1) (n- z) (n- z) (a+z) (k+1) e)/\w.grownBy w' (some g):=by
 have b:=aa hb;have j:=λW=>Bl (P:=prog) (t:=75) (e:=U8) (s:=1) underlying75 (λW=>by kernel_rfl) K n c z hz hc W;have y:wrap64 ((a:Int)+(z:Int))=((a+z:Nat):Int):=by unfold wrap64;omega
 have A:wrap64 ((k:Int)+1)=((k+1:Nat):Int):=by unfold wrap64;omega
 have p:(a:Int)+(z:Int)<=9223372036854775807:=by omega
 have q:(k:Int)+1<=9223372036854775807:=by omega
 have l:w.cell? ⟨g,2,none⟩=some (.slice K n c):=b.o.cell 2;have m:w.cell? ⟨g,3,none⟩=some (.int .i64 a):=b.o.cell 3;have o:w.cell? ⟨g,4,none⟩=some (.int .i64 k):=b.o.cell 4;have r:=b.o.free 2;have u:=b.o.free 3;have x:=b.o.free 4
 clear hb hz hc ha hk hn;obtain⟨i,d⟩:∃i,xt K n z 1=i:=⟨_,rfl⟩;obtain⟨h,f⟩:∃h,n- z=h:=⟨_,rfl⟩;rw[d,f]at j;rw[d,f];clear d f;go_enter func23,ntmps23;go_wp2
 go_end0
 exact⟨rfl,((b.o.put 2 (.slice i h h)).put 3 (.int .i64 ((a+z:Nat):Int))).put 4 (.int .i64 ((k+1:Nat):Int)),((YR w g 2 _).trans (YR _ g 3 _)).trans (YR _ g 4 _)⟩
theorem mV(v most:Int)(g:Nat)(K:Option Addr)(n c a k:Nat)(e:Int)(w:abP)(hb:Bk w g SmT (smC v most K n c a k e)):
  Calls prog 11 #[.pointer (some ⟨g,0,none⟩)] w λe' w'=>e'= .returned (.int .i64 a)/\w=w':=by
 have b:w.cell? ⟨g,3,none⟩=some (.int .i64 a):=hb.cell 3;clear hb;go_enter func11,ntmps11;go_wp2;go_ret;exact⟨rfl,rfl⟩
theorem lS(v most:Int)(g:Nat)(K:Option Addr)(n c a k:Nat)(e:Int)(w:abP)(hb:Bk w g SmT (smC v most K n c a k e)):
  Calls prog 12 #[.pointer (some ⟨g,0,none⟩)] w λe' w'=>e'= .returned (.int .i64 e)/\w=w':=by
 have b:w.cell? ⟨g,5,none⟩=some (.int .i64 e):=hb.cell 5;clear hb;go_enter func12,ntmps12;go_wp2;go_ret;exact⟨rfl,rfl⟩
def fC(v:Int)(t:abO)(e:Int):Int:=if e≠0 then 0 else if(smZ v t).2≠0 then 1 else((smZ v t).1:Int) - (t.size:Int)
theorem yb:∀(l m:List UInt8) (n k:Nat),(rv l n k).2.2≠3->rv (l++m) n k=rv l n k
 | [],m,n,k,h=>absurd rfl h
 | b :: l,m,n,k,h=>by
   rw[IJ,rv,rv];rw[rv]at h;split
   ·rename_i hb;rw[if_pos hb]at h;split
    ·rfl
    ·rename_i hk;rw[Fl hk]at h;exact yb l m _ _ h
   ·rfl
theorem ui:∀(l:List UInt8) (n k:Nat),k<=3->(rv l n k).2.2=3->l.length+k<=3
 | [],n,k,hk,_=>by simpa using hk
 | b :: l,n,k,hk,h=>by
   rw[rv]at h;split at h
   ·split at h
    ·simp at h
    ·have:=ui l _ (k+1) (by omega) h;rw[bM];omega
   ·split at h
    ·simp at h
    ·simp at h
theorem nd{v:Int}{s u:abO}(h:(hdR v s).2.2≠3):hdR v (s++u)=hdR v s:=by
 unfold hdR at h⊢;by_cases b:YG v=false
 ·simp only[if_pos b]
 by_cases c:s.size=0
 ·rw[Fl b,if_pos c]at h;exact absurd rfl h
 have f:(s++u).size≠0:=by rw[cK];omega
 have g:YW (s++u)=YW s:=by
  unfold YW;rw[fe];cases i:ls s with
  | nil=>exact absurd (by rw[<-aN,i];rfl) c
  | cons x l=>rfl
 have j:ls ((s++u).extract 1 (s++u).size)=ls (s.extract 1 s.size)++ls u:=by
  rw[jP,jP,fe,List.drop_append_of_le_length (by rw[aN];omega)]
 rw[Fl b,Fl c]at h;rw[Fl b,Fl f,Fl b,Fl c,g,j];by_cases a:ff v (YW s/ 16:Nat) (YW s% 16:Nat)≠0
 ·rw[if_pos a,if_pos a]
 rw[Fl a]at h;rw[Fl a,Fl a];have d:(YT (ls (s.extract 1 s.size))).2.2≠3:=by
  intro e;rw[if_pos (by rw[e];decide)]at h;exact h e
 rw[show YT (ls (s.extract 1 s.size)++ls u)=YT (ls (s.extract 1 s.size))from yb _ (ls u) 0 0 d]
theorem Ad(v k f:Int):ff v k f≠3:=by
 unfold ff;cases YG v<;>cases dS v k<;>cases eu k f<;>simp
theorem sf{v:Int}{s:abO}(h:(hdR v s).2.2=3):s.size<=4:=by
 unfold hdR at h;split at h
 ·simp at h
 split at h
 ·omega
 split at h
 ·exact absurd h (Ad _ _ _)
 split at h
 ·have:=ui _ 0 0 (by omega) h;rw[jP,bU,aN]at this;omega
 ·simp at h
theorem Cy(v:Int)(t:abO):hdR v (t.extract 0 (min t.size 5))=hdR v t:=by
 by_cases h:t.size<=5
 ·congr 1
  apply eX;rw[ix,bt (by rw[aN];omega)]
 ·have a:(hdR v (t.extract 0 5)).2.2≠3:=λe=>by
   have:=sf e;rw[aj]at this;omega
  have b:t.extract 0 5++t.extract 5 t.size=t:=eX (by rw[fe,ix,Y9,cg]);have:=nd (u:=t.extract 5 t.size) a;rw[b]at this;rw[show min t.size 5=5 by omega,this]
theorem ED{v:Int}{t:abO}(h:(hdR v t).2.2=0){z:Nat}(hz:(hdR v t).2.1<=z):hdR v (t.extract 0 z)=hdR v t:=by
 obtain⟨b1,b2,c,b,d⟩:=kw (v:=v) (s:=t) (h:=(hdR v t).1) (a:=(hdR v t).2.1) (by rw[<-h]);have:=ZT b1 b2 (s:=t.extract 0 z) (R:=((ls t).drop (hdR v t).2.1).take (z- (hdR v t).2.1)) (by
  rw[ix]
  conv=>lhs;rw[c]
  rw[ot,bt (by omega),<-b])
 rw[this,<-b,<-h]
def hdZ(v:Int)(t:abO):Nat:=(hdR v t).2.1+(hdR v t).1.n
theorem AZ(v:Int)(t:abO):smZ v t=if(hdR v t).2.2≠0 then(0,(hdR v t).2.2)else(hdZ v t,0):=by
 unfold smZ;rw[Cy];rfl
theorem nI(v most:Int)(t:abO):smN v most t=if(hdR v t).2.2≠0 then(pk0,0,(hdR v t).2.2)else if most<(hdZ v t:Nat)then(pk0,0,4)else if t.size<hdZ v t then(pk0,0,3)else mqR v (t.extract 0 (hdZ v t)):=by
 unfold smN;rw[AZ];by_cases h:(hdR v t).2.2≠0
 ·rw[if_pos h,if_pos h];exact(if_pos h).symm
 ·rw[Fl h,Fl h];exact Fl (λx=>x rfl)
theorem uW{v:Int}{t:abO}(h:(hdR v t).2.2=0)(hs:hdZ v t<=t.size):(mqR v (t.extract 0 (hdZ v t))).2.2≠3/\((mqR v (t.extract 0 (hdZ v t))).2.2=0->(mqR v (t.extract 0 (hdZ v t))).2.1=hdZ v t):=by
 have e:=ED h (z:=hdZ v t) (iX _ _);have c:(t.extract 0 (hdZ v t)).size=hdZ v t:=by rw[aj];omega
 unfold mqR;rw[e,Fl (λx=>x h),Fl (by rw[c];exact WQ _)];generalize chR v (hdR v t).1 ((t.extract 0 (hdZ v t)).extract (hdR v t).2.1 ((hdR v t).2.1+(hdR v t).1.n))=r;split
 ·exact⟨by simp,λ_=>rfl⟩
 ·rename_i b;refine⟨?_,λa=>?_⟩
  ·dsimp only;split
   ·decide
   ·assumption
  ·dsimp only at a;split at a
   ·cases a
   ·exact absurd a b
theorem nH{v most:Int}{t:abO}(h:(smN v most t).2.2=3):(hdR v t).2.2=3\/((hdR v t).2.2=0/\(hdZ v t:Int)<=most/\t.size<hdZ v t):=by
 rw[nI]at h;split at h
 ·exact .inl h
 rename_i a;have a:=il.1 a;split at h
 ·simp at h
 rename_i c;split at h
 ·rename_i b;exact .inr ⟨a,by omega,b⟩
 ·rename_i b;exact absurd h (uW a (by omega)).1
theorem nG{v most:Int}{t:abO}(h:(hdR v t).2.2=3\/((hdR v t).2.2=0/\(hdZ v t:Int)<=most/\t.size<hdZ v t)):(smN v most t).2.2=3:=by
 rw[nI];rcases h with h| ⟨a,c,b⟩
 ·rw[if_pos (by rw[h];decide)];exact h
 ·rw[Fl (λx=>x a),Fl (by omega),if_pos b]
theorem tZ{v most:Int}{t u:abO}(h:(smN v most t).2.2≠3):smN v most (t++u)=smN v most t:=by
 have f:(hdR v t).2.2≠3:=λe=>h (nG (.inl e));have d:=nd (u:=u) f;have g:hdZ v (t++u)=hdZ v t:=by unfold hdZ;rw[d]
 rw[nI v most t]at h;rw[nI,nI,g,d];by_cases a:(hdR v t).2.2≠0
 ·rw[if_pos a,if_pos a]
 rw[Fl a]at h;rw[Fl a,Fl a];by_cases b:most<(hdZ v t:Nat)
 ·rw[if_pos b,if_pos b]
 rw[Fl b]at h;rw[Fl b,Fl b];by_cases c:t.size<hdZ v t
 ·rw[if_pos c]at h;exact absurd rfl h
 rw[Fl c,Fl (by rw[cK];omega)]
 congr 1
 apply eX;rw[ix,ix,fe,eW (by rw[aN];omega)]
theorem Ba(v most:Int):∀(f f':Nat) (t:abO) (a k:Nat) (l:List Pk),t.size<f->t.size<f'->smF v most f t a k l=smF v most f' t a k l
 | 0,_,_,_,_,_,h,_=>absurd h (by omega)
 | _+1,0,_,_,_,_,_,h=>absurd h (by omega)
 | f+1,f'+1,t,a,k,l,h,h'=>by
   rw[mU,mU];split
   ·rename_i h0;have:=jD h0;exact Ba v most f f' _ _ _ _ (by rw[aj];omega) (by rw[aj];omega)
   ·rfl
def smG(v most:Int)(t:abO)(a k:Nat)(l:List Pk):List Pk×abO×Nat×Nat×Int:=smF v most (t.size+1) t a k l
theorem fK(v most:Int)(t:abO)(a k:Nat)(l:List Pk):smG v most t a k l=
  if(smN v most t).2.2=0 then smG v most (t.extract (smN v most t).2.1 t.size) (a+(smN v most t).2.1) (k+1) (l++[(smN v most t).1])
  else if(smN v most t).2.2=3 then(l,t,a,k,0)
  else(l,⟨#[]⟩,a,k,(smN v most t).2.2):=by
 unfold smG;rw[mU];split
 ·rename_i b;have:=jD b;exact Ba v most _ _ _ _ _ _ (by rw[aj];omega) (ed _)
 ·rfl
theorem pi(v most:Int):∀(N:Nat) (t:abO) (a k:Nat) (l:List Pk),t.size<=N->smG v most t a k l=
  (l++(smG v most t 0 0 []).1,(smG v most t 0 0 []).2.1,a+(smG v most t 0 0 []).2.2.1,k+(smG v most t 0 0 []).2.2.2.1,(smG v most t 0 0 []).2.2.2.2)
 | N,t,a,k,l,hN=>by
   rw[fK v most t a k l,fK v most t 0 0 []];split
   ·rename_i h0;have h1:=jD h0;have b:(t.extract (smN v most t).2.1 t.size).size=t.size- (smN v most t).2.1:=by rw[aj];omega
    match N,hN with
    | 0,hN=>omega
    | N+1,hN=>
      rw[pi v most N _ (a+(smN v most t).2.1) (k+1) (l++[(smN v most t).1]) (by omega),pi v most N _ (0+(smN v most t).2.1) (0+1) ([]++[(smN v most t).1]) (by omega)];simp only[List.append_assoc,dX,bV,Nat.add_assoc]
   ·split
    ·simp
    ·simp
theorem sH(v most:Int)(u:abO):∀(N:Nat) (t:abO) (a k:Nat) (l:List Pk),t.size<=N->smG v most (t++u) a k l=
  if(smG v most t a k l).2.2.2.2=0 then smG v most ((smG v most t a k l).2.1++u) (smG v most t a k l).2.2.1 (smG v most t a k l).2.2.2.1 (smG v most t a k l).1 else smG v most t a k l
 | N,t,a,k,l,hN=>by
   by_cases h0:(smN v most t).2.2=0
   ·have e:smN v most (t++u)=smN v most t:=tZ (by rw[h0];decide);have c:=jD h0;have f:(t.extract (smN v most t).2.1 t.size).size=t.size- (smN v most t).2.1:=by rw[aj];omega
    have d:(t++u).extract (smN v most t).2.1 (t++u).size=t.extract (smN v most t).2.1 t.size++u:=eX (by
     rw[Y9,fe,fe,Y9,List.drop_append_of_le_length (by rw[aN];exact c.2)])
    rw[fK v most (t++u),e,if_pos h0,fK v most t a k l,if_pos h0,d]
    match N,hN with
    | 0,hN=>omega
    | N+1,hN=>exact sH v most u N _ _ _ _ (by omega)
   ·by_cases b:(smN v most t).2.2=3
    ·rw[fK v most t a k l,Fl h0,if_pos b];exact(if_pos rfl).symm
    ·have e:=tZ (u:=u) b;rw[fK v most (t++u),e,Fl h0,Fl b,fK v most t a k l,Fl h0,Fl b];exact(Fl h0).symm
theorem sG(v most:Int):∀(N:Nat) (t:abO) (a k:Nat) (l:List Pk),t.size<=N->
  ((smG v most t a k l).2.2.2.2=0->(smN v most (smG v most t a k l).2.1).2.2=3)/\((smG v most t a k l).2.2.2.2≠0->(smG v most t a k l).2.1=⟨#[]⟩)/\
  (smG v most t a k l).2.2.2.1+l.length=k+(smG v most t a k l).1.length/\(smG v most t a k l).2.2.1+(smG v most t a k l).2.1.size<=a+t.size/\(smG v most t a k l).2.2.2.1<=k+t.size/\(smG v most t a k l).2.2.2.2≠3
 | N,t,a,k,l,hN=>by
   rw[fK];split
   ·rename_i h0;have h1:=jD h0;have g:(t.extract (smN v most t).2.1 t.size).size=t.size- (smN v most t).2.1:=by rw[aj];omega
    match N,hN with
    | 0,hN=>omega
    | N+1,hN=>
      obtain⟨c,d,e,i,j,f⟩:=sG v most N (t.extract (smN v most t).2.1 t.size) (a+(smN v most t).2.1) (k+1) (l++[(smN v most t).1]) (by omega);rw[List.length_append,qU]at e;exact⟨c,d,by omega,by omega,by omega,f⟩
   ·rename_i h0;split
    ·rename_i b;exact⟨λ_=>b,λh=>absurd rfl h,rfl,ac _,iX _ _,by simp⟩
    ·rename_i b;exact⟨λh=>absurd h h0,λ_=>rfl,rfl,by show a+0<=a+t.size;omega,iX _ _,b⟩
theorem t6{v most:Int}{t:abO}(h:(smN v most t).2.2=3)(a k:Nat)(l:List Pk):smG v most t a k l=(l,t,a,k,0):=by
 rw[fK,Fl (by rw[h];decide),if_pos h]
theorem t7{v most:Int}(hv:YG v=true)(a k:Nat)(l:List Pk):smG v most ⟨#[]⟩ a k l=(l,⟨#[]⟩,a,k,0):=by
 refine t6 (nG (.inl ?_)) a k l;unfold hdR;rw[Fl (by rw[hv];decide),if_pos (show(⟨#[]⟩:abO).size=0 from rfl)]
theorem kg(v:Int)(t:abO):fC v t 0=if(hdR v t).2.2≠0 then 1 else(hdZ v t:Int) - (t.size:Int):=by
 unfold fC;rw[Fl (λx=>x rfl),AZ];by_cases h:(hdR v t).2.2≠0
 ·rw[if_pos h,if_pos h];exact(if_pos h).symm
 ·rw[Fl h,Fl h];exact Fl (λx=>x rfl)
theorem mT{v most:Int}{t:abO}(h:(smN v most t).2.2=3)(hm:16<=most):1<=fC v t 0/\fC v t 0<=most/\(t.size:Int)<=most- 1:=by
 rw[kg];rcases nH h with a| ⟨a,b,c⟩
 ·rw[if_pos (by rw[a];decide)];have:=sf a;omega
 ·rw[Fl (λx=>x a)];omega
def nF(v mp md:Int):Bool:=YG v&&decide (16<=mp/\mp<=1048576/\0<=md/\md<=32)
def zW(mp md:Int):Value:=.agg #[.int .i64 mp,.int .i64 md]
def xL(v mp md:Int)(w:abP)(e:Ending)(w':abP):Prop:=
 abQ w w'/\if nF v mp md=true then ∃g,e= .returned (.tuple #[.pointer (some ⟨g,0,none⟩),.int .i64 0])/\w.heap.size<=g/\Bk w' g SmT (smC v mp none 0 0 0 0 0)else e= .returned (.tuple #[.pointer none,.int .i64 2])
theorem qi{v mp md:Int}{w w':abP}(h:nF v mp md=false)(hb:abQ w w'):xL v mp md w (.returned (.tuple #[.pointer none,.int .i64 2])) w':=by
 refine⟨hb,?_⟩;rw[Fl (by rw[h];decide)]
theorem zL{v mp md:Int}{w w':abP}{g:Nat}(h:nF v mp md=true)(hb:abQ w w')(hg:w.heap.size<=g)(hk:Bk w' g SmT (smC v mp none 0 0 0 0 0)):xL v mp md w (.returned (.tuple #[.pointer (some ⟨g,0,none⟩),.int .i64 0])) w':=by
 refine⟨hb,?_⟩;rw[if_pos h];exact⟨g,rfl,hg,hk⟩
theorem ZQ(v mp md:Int)(w:abP):Calls prog 7 #[.int .i64 v,zW mp md] w (xL v mp md w):=by
 have a:Hid (nF v mp md=(decide (v=4\/v=5)&&decide (16<=mp/\mp<=1048576/\0<=md/\md<=32))):=aa rfl;have f:=aa ((aq w.heap.size w).alloc (ac _) (.cells #[.int .i64 mp,.int .i64 md] 23));have o:Hid ((w.alloc (.cells #[.int .i64 mp,.int .i64 md] 23)).heap.size=w.heap.size+1):=aa (by simp);have l:=aa (Bk.fresh w 23 #[.int .i64 mp,.int .i64 md]);have q:(w.alloc (.cells #[.int .i64 mp,.int .i64 md] 23)).cell? ⟨w.heap.size,0,none⟩=some (.int .i64 mp):=l.o.cell 0;have r:(w.alloc (.cells #[.int .i64 mp,.int .i64 md] 23)).cell? ⟨w.heap.size,1,none⟩=some (.int .i64 md):=l.o.cell 1;unfold zW;by_cases d:v=4\/v=5;rotate_left
 ·have c:Hid (nF v mp md=false):=aa (by rw[a.o,ah d];rfl);have g:(v !=4)=true:=aA.2 (by omega);have m:(v !=5)=true:=aA.2 (by omega);clear d a;go_enter func7,ntmps7;go_wp2;go_ret2;exact qi c.o f.o
 have i:(v !=4)=false\/((v !=4)=true/\(v !=5)=false):=by
  by_cases e:v=4
  ·exact .inl (by rw[e];rfl)
  ·exact .inr ⟨aA.2 e,by rw[show v=5 by omega];rfl⟩
 by_cases h:16<=mp/\mp<=1048576/\0<=md/\md<=32;rotate_left
 ·have c:Hid (nF v mp md=false):=aa (by rw[a.o,ah h,ru]);have b:mp<16\/(16<=mp/\1048576<mp)\/(16<=mp/\mp<=1048576/\md<0)\/(16<=mp/\mp<=1048576/\0<=md/\32<md):=by omega
  clear d h a;rcases i with g| ⟨g,m⟩<;>rcases b with b| ⟨b,j⟩ | ⟨b,j,n⟩ | ⟨b,j,n,p⟩
  all_goals
   go_enter func7,ntmps7;go_wp2;go_ret2;exact qi c.o f.o
 have c:Hid (nF v mp md=true):=aa (by rw[a.o,au d,au h];rfl);have k:=aa (Bk.fresh (w.alloc (.cells #[.int .i64 mp,.int .i64 md] 23)) SmT (smC v mp none 0 0 0 0 0));obtain⟨b,j,n,p⟩:=h;clear d a;rcases i with g| ⟨g,m⟩
 all_goals
  go_enter func7,ntmps7;go_wp2;go_ret2;refine zL c.o (f.o.alloc f.o.size _) ?_ (by rw[o.o]at k;exact k.o);omega
def tB(s:abO)(z:Int):Nat:=(mq z ((s.size+1:Nat):Int)).toNat
def qG(st:List abO×abO)(z:Int):List abO×abO:=(st.1++[st.2.extract 0 (tB st.2 z)],st.2.extract (tB st.2 z) st.2.size)
def mf(s:abO)(l:List Int):List abO×abO:=l.foldl qG ([],s)
def rr(s:abO)(l:List Int):List abO:=(mf s l).1++[(mf s l).2]
theorem zG(n:Int)(m:Nat):∃q:Nat,mq n ((m+1:Nat):Int)=q/\q<=m:=by
 have a:=Int.emod_nonneg n (show((m+1:Nat):Int)≠0 by omega);have b:=Int.emod_lt_of_pos n (show 0<((m+1:Nat):Int) by omega);unfold mq;rw[Fl (by omega)];exact⟨(n% ((m+1:Nat):Int)).toNat,by omega,by omega⟩
theorem EM(s:abO)(z:Int):mq z ((s.size+1:Nat):Int)=(tB s z:Int)/\tB s z<=s.size:=by
 obtain⟨q,a,b⟩:=zG z s.size;unfold tB;rw[a];exact⟨by simp,by simpa using b⟩
theorem Aj(s:abO){l:List Int}{k:Nat}(h:k<l.length):mf s (l.take (k+1))=qG (mf s (l.take k)) l[k]:=by
 unfold mf;rw[fE h,List.foldl_append];rfl
theorem vF(s:abO):∀(l:List Int) (st:List abO×abO),(l.foldl qG st).1.length=st.1.length+l.length
 | [],_=>rfl
 | z :: l,st=>by
   rw[jq,vF s l];simp[qG];omega
theorem Al(l:List Int):∀(st:List abO×abO),(l.foldl qG st).1.flatMap ls++ls (l.foldl qG st).2=st.1.flatMap ls++ls st.2:=by
 induction l with
 | nil=>intro st;rfl
 | cons z l ih=>
   intro st;rw[jq,ih];unfold qG;simp only[fR,YS,List.flatMap_nil,YO,List.append_assoc];rw[ix,Y9,cg]
theorem Ak(s:abO)(l:List Int):(rr s l).flatMap ls=ls s:=by
 unfold rr;rw[fR];have:=Al l ([],s)
 simpa [mf]using this
theorem aa8(s:abO)(l:List Int):(rr s l).length=l.length+1:=by
 unfold rr mf;rw[List.length_append,vF s l];simp
theorem xr(l:List Int):∀(st:List abO×abO),(l.foldl qG st).2.size<=st.2.size:=by
 induction l with
 | nil=>intro st;exact ac _
 | cons z l ih=>
   intro st;rw[jq];refine aC (ih _) ?_;unfold qG;dsimp only;rw[aj];omega
def jO(l:List abO):abO:=⟨(l.flatMap ls).toArray⟩
theorem ko(l:List abO):ls (jO l)=l.flatMap ls:=jo _
theorem xa(l:List abO)(x:abO):jO (l++[x])=jO l++x:=eX (by
 rw[fe,ko,ko,fR];simp)
theorem zY(s:abO)(l:List Int):jO (rr s l)=s:=eX (by rw[ko,Ak])
theorem mr(l:List abO)(k:Nat):(jO (l.take k)).size<=(jO l).size:=by
 rw[<-aN,<-aN,ko,ko]
 conv=>rhs;rw[<-cg k l,fR,List.length_append]
 exact iX _ _
theorem CM{v most:Int}{T u t:abO}{a k:Nat}{l:List Pk}(h:smG v most T 0 0 []=(l,t,a,k,0)):
  smG v most (T++u) 0 0 []=(l++(smG v most (t++u) a k []).1,(smG v most (t++u) a k []).2.1,(smG v most (t++u) a k []).2.2.1,(smG v most (t++u) a k []).2.2.2.1,(smG v most (t++u) a k []).2.2.2.2):=by
 rw[sH v most u _ T 0 0 [] (ac _),h];dsimp only;rw[if_pos rfl,pi v most _ (t++u) a k l (ac _),pi v most _ (t++u) a k [] (ac _)];simp only[dX]
theorem EJ{v most:Int}{T u t:abO}{a k:Nat}{l:List Pk}{e:Int}(h:smG v most T 0 0 []=(l,t,a,k,e))(he:e≠0):smG v most (T++u) 0 0 []=(l,t,a,k,e):=by
 rw[sH v most u _ T 0 0 [] (ac _),h];exact Fl he
theorem XC(s:abO)(a q:Nat):(s.extract a s.size).extract q (s.extract a s.size).size=s.extract (a+q) s.size:=eX (by
 rw[Y9,Y9,Y9,et])
def WZ(mp md:Int):Bool:=decide (16<=mp/\mp<=1048576/\0<=md/\md<=32)
theorem WM(v mp md:Int):nF v mp md=(YG v&&WZ mp md):=rfl
def lmS(v mp md:Int)(s:abO):List Pk×Nat×Int:=if nF v mp md=true then((smG v mp s 0 0 []).1,(smG v mp s 0 0 []).2.2.1,(smG v mp s 0 0 []).2.2.2.2)else([],0,2)
theorem XN{v mp:Int}{s:abO}{a n:Nat}{l:List Pk}{RES:List Pk×Nat×Int}(hF:RES=((smG v mp (s.extract a s.size) a n l).1,(smG v mp (s.extract a s.size) a n l).2.2.1,(smG v mp (s.extract a s.size) a n l).2.2.2.2)){P:Pk}{q:Nat}{E:Int}(hR:smN v mp (s.extract a s.size)=(P,q,E)):
  (E=3->RES=(l,a,0))/\(E≠0->E≠3->RES=(l,a,E))/\(E=0->(2<=q/\a+q<=s.size\/s.size<a)/\RES=((smG v mp (s.extract (a+q) s.size) (a+q) (n+1) (l++[P])).1,(smG v mp (s.extract (a+q) s.size) (a+q) (n+1) (l++[P])).2.2.1,(smG v mp (s.extract (a+q) s.size) (a+q) (n+1) (l++[P])).2.2.2.2)):=by
 have b:=jD (v:=v) (most:=mp) (t:=s.extract a s.size);rw[fK,hR]at hF;rw[hR]at b;dsimp only at hF b;rw[XC]at hF;refine⟨λh=>?_,λc d=>?_,λh=>?_⟩
 ·rw[Fl (by rw[h];decide),if_pos h]at hF;exact hF
 ·rw[Fl c,Fl d]at hF;exact hF
 ·have:=b h;rw[aj]at this;rw[if_pos h]at hF;exact⟨by omega,hF⟩
theorem Kp.apart{w0 w y:abP}{K:Option Addr}{n c:Nat}{t:List UInt8}(h:Kp w0 w K n c t){gp:Nat}{ty:TypeId}{cs:Array Value}(hp:Bk w gp ty cs)(hne:ty≠U8)(hm:w.grownBy y (some gp)):Kp w0 y K n c t:=by
 refine⟨h.len,h.cap,?_⟩;rcases h.lies with b| ⟨g,o,M,b,d,a,f⟩
 ·exact .inl b
 ·refine .inr ⟨g,o,M,b,d,(hm.block g a.lt λe=>?_).trans a,f⟩;cases e;unfold Bk at hp a;rw[hp]at a;simp only[aX,fc]at a;exact hne a.2.1
theorem yB{w0 w:abP}{K:Option Addr}{n c z:Nat}{t:abO}(h:Kp w0 w K n c (ls t))(hz:z<=n):(convert 75 9 (.slice K z c)).run prog w= .ok (.string (t.extract 0 z)) w:=by
 have a:=h.rd.cut_to hz;rw[Y8,lM]at a;have b:=ni (P:=prog) 75 9 U8 underlying75 underlying5 underlying9 c a;rw[b]
 congr 2
 apply eX;rw[jo];have:=Ym t 0 z;rw[bV,Yl]at this;exact this.symm
theorem DM{v:Int}{t:abO}:(smZ v t).1<=268435460:=by
 unfold smZ;split
 ·exact ag _
 rename_i h;have c:=il.1 h;obtain⟨b1,b2,d,e,b⟩:=kw (v:=v) (s:=t.extract 0 (min t.size 5)) (h:=(hdR v (t.extract 0 (min t.size 5))).1) (a:=(hdR v (t.extract 0 (min t.size 5))).2.1) (by rw[<-c]);rw[aj]at b;dsimp only;omega
theorem wj(v most:Int)(g:Nat)(K:Option Addr)(n c a k:Nat)(e:Int)(t:abO)(w0 w:abP)(hb:Bk w g SmT (smC v most K n c a k e))(hk:Kp w0 w K n c (ls t))(ht:t.size<=1000000000000):
  Calls prog 22 #[.pointer (some ⟨g,0,none⟩)] w (tM (smN v most t) w):=by
 have H:Hid (smN v most t=if(smZ v t).2≠0 then(pk0,0,(smZ v t).2)else if most<((smZ v t).1:Nat)then(pk0,0,4)else if t.size<(smZ v t).1 then(pk0,0,3)else mqR v (t.extract 0 (smZ v t).1)):=aa rfl;have HT:=aa ht;have HL:Hid (t.size=n):=aa (by rw[<-aN];exact hk.len);have O:=(aq w.heap.size w).alloc (ac _) (.cells (pkC pk0 hs0) PkT);have G:=aa O;have L:=aa (Bk.fresh w PkT (pkC pk0 hs0));have HG:=aa (show g<w.heap.size from hb.lt);have C:=aa (hb.alloc (.cells (pkC pk0 hs0) PkT));have M:=aa (hk.below O);have E:=aa (pM v most g K n c a k e t w0 _ C.o M.o ht);have ad:=aa (DM (v:=v) (t:=t));clear hb hk ht O;obtain⟨⟨z,x⟩,hz⟩:∃r,smZ v t=r:=⟨_,rfl⟩;rw[hz]at H E ad;dsimp only at H E ad;clear hz;go_enter func22,ntmps22;go_wp2_with fail;refine E.o.mono ?_;rintro e' f ⟨rfl,hb⟩;have o:=aa (Yf G.o hb);have h:=aa (Yh L.o hb);have d:=aa (Yh C.o hb);have A:=aa (M.o.below hb);clear hb E G L C M;have T:=aW h.o pk0 hs0;have D:Hid (abQ w (dE f w.heap.size pk0 hs0)):=aa (YQ o.o o.o.size (ac _) pk0 hs0);have m:=aa (cO h.o pk0 hs0);by_cases U:x=0;rotate_left
 ·have j:Hid (smN v most t=(pk0,0,x)):=aa (by rw[H.o,if_pos U]);have e0:(x !=0)=true:=aA.2 U;clear U;go_wp2;refine av (eZ rfl _ rfl m.o) rfl ?_;exact gR j.o D.o
 have I:Hid (smN v most t=if most<(z:Nat)then(pk0,0,4)else if t.size<z then(pk0,0,3)else mqR v (t.extract 0 z)):=aa (by rw[H.o,Fl (λy=>y U)]);subst U;have c1:f.cell? ⟨g,1,none⟩=some (.int .i64 most):=d.o.cell 1;have c2:f.cell? ⟨g,2,none⟩=some (.slice K n c):=d.o.cell 2;by_cases B:most<(z:Nat)
 ·have j:Hid (smN v most t=(pk0,0,4)):=aa (by rw[I.o,if_pos B]);go_wp2;refine av (eZ rfl _ rfl m.o) rfl ?_;exact gR j.o D.o
 have m1:decide (most<(z:Int))=false:=ah B;have J:Hid (smN v most t=if t.size<z then(pk0,0,3)else mqR v (t.extract 0 z)):=aa (by rw[I.o,Fl B]);clear B H I;go_upto_region 4 with fail
 go_upto_if 21 with fail
 clear m1;go_upto_region 6 with fail
 by_cases F:n<z
 ·have j:Hid (smN v most t=(pk0,0,3)):=aa (by rw[J.o,if_pos (by rw[HL.o];exact F)]);have m2:decide ((n:Int)<(z:Int))=true:=au (by omega);have m3:decide (n<z)=true:=au F;clear F;go_wp2;refine av (eZ rfl _ rfl m.o) rfl ?_;exact gR j.o D.o
 have m2:decide ((n:Int)<(z:Int))=false:=ah (by omega);have m3:decide (n<z)=false:=ah F;have N:Hid (z<=n):=aa (by omega);have j:Hid (smN v most t=mqR v (t.extract 0 z)):=aa (by rw[J.o,Fl (by rw[HL.o];exact F)]);clear F J;clear m D;go_upto_region 8 with fail
 clear T m2 m3 c1 c2;have Y:Hid (∀W,abQ f W->(convert 75 9 (.slice K z c)).run prog W= .ok (.string (t.extract 0 z)) W):=aa (λW l=>yB (A.o.below l) N.o);have ab:Hid (∀W,abQ f W->W.cell? ⟨g,0,none⟩=some (.int .i64 v)/\W.cell? ⟨g,2,none⟩=some (.slice K n c)/\(convert 75 9 (.slice K z c)).run prog W= .ok (.string (t.extract 0 z)) W):=aa (λW l=>⟨(Yh d.o l).cell 0,(Yh d.o l).cell 2,Y.o W l⟩);have ar:Hid (∀W (p:Pk) (q:Hs),abQ f W->(dE W w.heap.size p q).cell? ⟨g,0,none⟩=some (.int .i64 v)/\(dE W w.heap.size p q).cell? ⟨g,2,none⟩=some (.slice K n c)/\(convert 75 9 (.slice K z c)).run prog (dE W w.heap.size p q)= .ok (.string (t.extract 0 z)) (dE W w.heap.size p q)):=aa (λW p q l=>by
  have hk:=Yh h.o l;have B:=cJ W w.heap.size p q;have hg:Bk (dE W w.heap.size p q) g SmT (smC v most K n c a k e):=(B.block g (Yh d.o l).lt (λe=>by cases e;exact absurd HG.o (WQ _))).trans (Yh d.o l);exact⟨hg.cell 0,hg.cell 2,yB ((A.o.below l).apart hk (by decide) B) N.o⟩)
 have u:Hid (abQ f f.drew):=aa (aV (aq f.heap.size f) 1);have aL:=λW=>Bi (P:=prog) (t:=75) (e:=U8) (s:=1) underlying75 (λW=>by kernel_rfl) K n c z (aC N.o A.o.cap) W;have Z:=aa (λW=>wS v (t.extract 0 z) W (by rw[aj];have:=HT.o;omega));obtain⟨R,hR⟩:∃R,mqR v (t.extract 0 z)=R:=⟨_,rfl⟩;rw[hR]at j Z;clear hR Y;refine je (λX=>X.cell? ⟨g,0,none⟩=some (.int .i64 v)/\X.cell? ⟨g,2,none⟩=some (.slice K n c)/\(convert 75 9 (.slice K z c)).run prog X= .ok (.string (t.extract 0 z)) X) [] (by kernel_rfl) ?_;have b:=ab.o f.drew u.o;refine Yi 0 [] rfl b ?_;refine Yi 1 [] rfl b ?_;refine Yi 2 [] rfl b ?_;refine Yi 3 [] rfl b ?_;refine Yi 4 [] rfl b ?_;refine Yi 5 [] rfl b ?_;refine Yi 6 [] rfl b ?_;refine Yi 7 [] rfl b ?_;refine Yi 8 [] rfl b ?_;refine Yi 9 [] rfl b ?_;refine Yi 10 [] rfl b ?_;refine Up 11 rfl (λK i=>?_);go_simp;go_at_call 36;refine(Z.o _).mono ?_;rintro e' w3 ⟨S,rfl,ag,Q,ae⟩;have V:=aa (Yf u.o Q);have K3:=aa (Yh h.o V.o);have I3:=aa ag;have F3:=aa ae;have Z3:=aa Q.size
 clear ag Q ae b;have b:=ab.o w3 V.o;go_simp;refine i.out _ _ (λ_=>b) ?_;clear i K;refine Yi 12 [] rfl b ?_;refine Yi 13 [] rfl b ?_;refine Yi 14 [] rfl b ?_;refine Up 15 rfl (λK i=>?_);have T:=aW K3.o R.1 S;go_simp;clear T b;have b:=ar.o w3 R.1 S V.o;refine i.out _ _ (λ_=>b) ?_;clear i K;refine Up 16 rfl (λK i=>?_);go_simp;refine i.out _ _ (λ_=>b) ?_;clear i K;refine Up 17 rfl (λK i=>?_);go_simp;refine i.out _ _ (λ_=>b) ?_;clear i K;refine oh (by kernel_rfl) ?_ _;go_wp2;refine av (eZ rfl _ rfl (cO K3.o R.1 S)) rfl ?_;have BB:=Yf o.o V.o;exact⟨S,by rw[j.o];rfl,by rw[j.o];exact I3.o.put K3.o (cJ _ _ _ _) F3.o (YU h.o.lt u.o.size),YQ BB BB.size (ac _) R.1 S,by rw[j.o];exact F3.o.mono (aC o.o.size u.o.size)⟩
end
end Go.Proofs.YtmohmcgbejojcaaGreatDoor
namespace Go.Proofs.YtmohmcgbejojcaaGreatDoor
open Go.ChangeShapes Go.WideShapes Go.ChangeAt Go.RowKit Go.Deep
open Go.Proofs.Tryz
set_option maxRecDepth 100000
section
variable {H:Type} {enc:TypeId×Value->H} {P:Program} {w:abP} {base:Nat} {spare:Nat->Bool} {held:Bool}
theorem vz{fs:Array Field}{n:Nat}{cs:List Value}{xs:List (DataW H×List MemPlace)}
  (hf:∀(i:Nat) (f:Field),fs[i]? =some f->DataW.trod enc P w base spare held n f.type ((cs.drop f.offset).take (P.cellsOf f.type))=xs[i]?)
  (i:Nat){t:TypeId}{o k:Nat}(hi:(fs[i]?.map λf=>(f.type,f.offset,P.cellsOf f.type))=some (t,o,k)):DataW.trod enc P w base spare held n t ((cs.drop o).take k)=xs[i]? :=by
 obtain⟨f,b,a⟩:=Option.map_eq_some_iff.1 hi;simp only[bG]at a;obtain⟨rfl,rfl,rfl⟩:=a;exact hf i f b
theorem fu.field{t:TypeId}{fs:Array Field}{ds:List (DataW H)}(ht:P.underlying t=some (.struct fs))(h:fu P t (.agg ds)){i:Nat}{u:TypeId}{d:DataW H}(hu:(fs.toList.map (·.type))[i]? =some u)(hd:ds[i]? =some d):fu P u d:=λz a=>h z (by
 simp only[DataW.weights,ht];exact DataW.weights_mem_each hu hd z a)
theorem fu.text{t:TypeId}{s:abO}(h:fu P t (.lit (.string s.data.toList):DataW H)):s.size<=140737488351232:=by
 have:=h.str
 simpa [reachBytes]using this
end
section
variable {H:Type} {enc:TypeId×Value->H} {w:abP} {base:Nat} {spare:Nat->Bool} {held:Bool}
end
end Go.Proofs.YtmohmcgbejojcaaGreatDoor
namespace Go.Proofs.YtmohmcgbejojcaaGreatDoor
open Go.RowKit Go.Proofs.Tryz
section
theorem Qo(v:Int)(p:Pk):(mqB v p).2=mqE v p:=by
 unfold mqB;split
 ·rename_i h;exact h.symm
 ·rfl
theorem abN{v:Int}{p:Pk}(h:mqE v p=0):(mqS v p).size<=268435460:=by
 have a:=(Ol h).2.2.2;have b:=EC p.kind (mqF p) (chB v p).1.size;rw[Cf];omega
attribute [local go_sem ↓] xS
attribute [local go_sem] um
def Vs(r:List Pk×Nat×Int)(w:abP)(e:Ending)(w':abP):Prop:=∃A n c L,e= .returned (.tuple #[.slice A n c,.int .i64 (r.2.1:Nat),.int .i64 r.2.2])/\RdK w' A n L/\L.map Prod.fst=r.1/\abQ w w'/\n<=c/\n<=10000000000
theorem UE{w0 w:abP}{A:Option Addr}{n c a:Nat}{x:Int}{L:List (Pk×Hs)}{r:List Pk×Nat×Int}(hI:RowI w0 w A n c L)(hB:abQ w0 w)(hr:(L.map Prod.fst,a,x)=r)(hn:n<=10000000000):Vs r w0 (.returned (.tuple #[.slice A n c,.int .i64 a,.int .i64 x])) w:=by
 subst hr;exact⟨A,n,c,L,rfl,hI.read,rfl,hB,hI.row.cap,hn⟩
end
section
theorem uh(A A':Option Addr)(n m c c':Nat)(L M:List (Pk×Hs))(w:abP)(hl:RdK w A n L)(hm:RdK w A' m M)(ol:∀x∈L,gz x.1)(om:∀x∈M,gz x.1)(hn:n<=4611686018427387904)(hn':m<=4611686018427387904):
  abR 10 #[.slice A n c,.slice A' m c'] w (.bool (decide (L.map Prod.fst=M.map Prod.fst))):=by
 have E:=aa hl.len;have F:=aa hm.len
 by_cases b:n=m
 ·subst b;have Z:=aa hl;have HM:=aa hm;have OL:=aa ol;have OM:=aa om
  clear hl hm ol om;go_enter func10,ntmps10;go_wp2
  go_loopw [5] (λi wr=>∃k:Nat,k<=n/\i= .int .i64 k/\(∀j,j<k->(L.map Prod.fst)[j]? =(M.map Prod.fst)[j]?)/\abQ w wr) (λi _=>n- (intOf i).toNat)
  case atStart=>exact⟨0,by omega,rfl,λj s=>by omega,aq _ _⟩
  case round=>
   obtain⟨k,hk,rfl,g,o⟩:=hrel;have G:=aa g;have a:=aa o
   clear g o;by_cases v:k<n
   ·obtain⟨bA,oA,p,h,rfl,y,Q,X,U⟩:=(Z.o.below a.o).at v;obtain⟨bB,oB,q,O,rfl,z,R,Y,V⟩:=(HM.o.below a.o).at v;have LP:Hid (gz p):=aa (OL.o (p,h) (iL y));have LQ:Hid (gz q):=aa (OM.o (q,O) (iL z));have J:Hid ((L.map Prod.fst)[k]? =some p):=aa (by rw[Zr,y];rfl);have u:Hid ((M.map Prod.fst)[k]? =some q):=aa (by rw[Zr,z];rfl);clear y z Q R;have b1:(0:Int)<=(k:Int):=by omega
    have b2:(k:Int)<(n:Int):=by omega
    have D:=jw (W:=wr) (λx T=>ws p q h O x (U.next T) (V.next T) LP.o LQ.o);have g1:=λd r=>X _ (below_regrown wr d r);have g2:=λd r=>Y _ (below_regrown wr d r);have t:=aa (λd r=>a.o.trans ((below_regrown wr d r).mono a.o.size));have f:=aa (show decide (p=q)=true↔p=q from cH);clear U V X Y;obtain⟨B,P⟩:∃B,decide (p=q)=B:=⟨_,rfl⟩;rw[P]at D f;clear P;go_wp2_with fail;refine wp_region_quiet_below (by as_aux_lemma=>kernel_rfl) (by as_aux_lemma=>kernel_rfl) ?_
    repeat (go_big_quiet_step (first| with_reducible exact D _ _))
    refine kE ?_;intro _ S;obtain⟨⟨N,osq⟩,C⟩:=S;subst C;have K:=aa (t.o N osq);clear D g1 g2 t;generalize Sort.grow (redrawn _ N) osq=wq at*;cases B
    ·have I:Hid (p≠q):=aa (λe=>by have:=f.o.2 e;cases this);go_wp2;go_ret;refine⟨?_,K.o⟩;have:L.map Prod.fst≠M.map Prod.fst:=by
      intro e;have:=J.o.symm.trans ((congrArg (λl:List Pk=>l[k]?) e).trans u.o);exact I.o (by simpa using this)
     simp[this]
    ·have H:Hid (p=q):=aa (f.o.1 rfl);go_wp2;go_roundw
     case rel=>
      refine⟨k+1,by omega,by go_num,λj s=>?_,K.o⟩;rcases dx.1 s with h| rfl
      ·exact G.o j h
      ·rw[J.o,u.o,H.o]
     case measure=>simp[intOf];omega
   ·go_wp2;go_ret;refine⟨?_,a.o⟩;have:L.map Prod.fst=M.map Prod.fst:=by
     apply dM;intro j;by_cases s:j<k
     ·exact G.o j s
     ·rw[aG (by rw[eD];have:=E.o;omega),aG (by rw[eD];have:=F.o;omega)]
    simp[this]
 ·have h1:((n:Int) != (m:Int))=true:=by simpa using (by omega:¬(n:Int)=(m:Int))
  have HN:=aa b;clear b hl hm ol om;go_enter func10,ntmps10;go_wp2;go_ret;refine⟨?_,aq _ _⟩;have:L.map Prod.fst≠M.map Prod.fst:=by
   intro e;have:=congrArg List.length e;rw[eD,eD]at this;exact HN.o (by rw[<-E.o,<-F.o];exact this)
  simp[this]
attribute [local go_sem ↓] xS
attribute [local go_sem] um
section
variable {v:Int} {w x y:abP} {L G:List (Pk×Hs)} {i:Nat} {AG:Option Addr} {cG:Nat} {ve:Value} {p:Pk} {h:Hs}
end
theorem RowK.other{w0 w y:abP}{A:Option Addr}{n c:Nat}{L:List (Pk×Hs)}(h:RowK w0 w A n c L){row:Option Nat}(hm:w.grownBy y row)(hne:∀g,A=some ⟨g,0,none⟩->row≠some g):RowK w0 y A n c L:=by
 refine⟨h.len,?_⟩;rcases h.lies with a| ⟨g,M,a,d,b,f⟩
 ·exact .inl a
 ·exact .inr ⟨g,M,a,d,(hm.block g b.lt (λe=>hne g a e.symm)).trans b,f⟩
end
