/- Parts: MsF, MsG, LmS, MsJ, MsI, MsK, Slm. -/
import Derived.Test.YtmohmcgbejojcaaGreatDoorTsG0MsB
set_option maxRecDepth 10000
set_option maxHeartbeats 8000000
namespace Go.Proofs.YtmohmcgbejojcaaGreatDoor
open Go.RowKit Go.Proofs.Tryz
variable {w w0 y x wf w':abP}{v most mp e md:Int}{g m n c a k cm d:Nat}{A K:Option Addr}{L:List (Pk×Hs)}{o:Option Nat}{t:abO}{cs:Array Value}{ty:TypeId}{r:List Pk×abO×Nat×Nat×Int}{l:List abO}
section
attribute [local go_sem ↓] xS
attribute [local go_sem] um
theorem DD{w:abP}{o:Oper}{a:Act}{J:Act->abP->Prop}{Q:Exit->Act->abP->Prop}(x y:Operand)
  (ho:o.op= .call {callee:=.builtin .append,args:=#[x,y],argTypes:=#[75,9]})
  {w0:abP}{K:Option Addr}{n c:Nat}{t:List UInt8}(s:abO)(hx:a.eval x= .slice K n c)(hy:a.eval y= .string s)(hr:Kp w0 w K n c t)(h0:w0.heap.size<=w.heap.size)(hb:n+s.size<=1000000000000)
  (h:∀K' c' w',Kp w0 w' K' (n+s.size) c' (t++ls s)->w.grownBy w' (Value.slice K n c).ownBlock->J (a.put o.dst (.slice K' (n+s.size) c')) w'):o.wp prog a w J Q:=by
 obtain⟨K',c',w',b,d,e⟩:=Bp hr h0 o.type s hb;unfold Oper.wp execOp;simp only[ho,resolve,invoke,builtin,Sem.run_bind,Sem.run_pure,ik,kD,fI,gC,hx,hy,b];exact h K' c' w' d e
theorem tQ{w:abP}{ops:Array Oper}{rest:List Oper}{o:Oper}{a:Act}{Q:Exit->Act->abP->Prop}(hgd:o.guard=none)(x y:Operand)
  (ho:o.op= .call {callee:=.builtin .append,args:=#[x,y],argTypes:=#[75,9]})
  {w0:abP}{K:Option Addr}{n c:Nat}{t:List UInt8}(s:abO)(hx:a.eval x= .slice K n c)(hy:a.eval y= .string s)(hr:Kp w0 w K n c t)(h0:w0.heap.size<=w.heap.size)(hb:n+s.size<=1000000000000)
  (h:∀K' c' w',Kp w0 w' K' (n+s.size) c' (t++ls s)->w.grownBy w' (Value.slice K n c).ownBlock->wpList prog ops Q rest (a.put o.dst (.slice K' (n+s.size) c')) w'):wpList prog ops Q (o :: rest) a w:=
 Y6 hgd λ_ e=>DD x y ho s hx hy hr h0 hb λK' c' w' b d=>e _ _ (h K' c' w' b d)
theorem t8(v most:Int)(K:Option Addr)(n c a k:Nat)(e:Int):∀(i:Nat) (m:Int),(smC v most K n c a k e)[i]? ≠some (Value.int IntKind.u32 m):=by
 intro i m;rcases i with _| _| _| _| _| _| i<;>simp[smC]
theorem Bb(v most:Int)(K:Option Addr)(n c a k:Nat)(e:Int)(o:Nat)(x:abO)(b:Int)(_c d:Bool)(h0:(smC v most K n c a k e)[o]? =some (.string x))(_h1:(smC v most K n c a k e)[o+1]? =some (.int .i64 b))(_h3:(smC v most K n c a k e)[o+3]? =some (.bool d)):False:=by
 rcases o with _| _| _| _| _| _| o<;>simp[smC]at h0
theorem PkIn.stream{p:Pk}{h:Hs}(hi:PkIn x x.heap.size p h)(hbk:Bk x g SmT (smC v most K n c a k e))(hm:x.grownBy y (some g))(hf:gG g (p,h)):PkIn y y.heap.size p h:=by
 refine⟨(hi.wp.other hbk (t8 _ _ _ _ _ _ _ _) hm (ac _)).wider hm.size,?_,(hi.filters.otherN hbk (Bb _ _ _ _ _ _ _ _) hm (ac _)).wider hm.size,(hi.props.other hbk (t8 _ _ _ _ _ _ _ _) hm (ac _)).wider hm.size,hi.caps⟩;refine(hi.codes.grown hm (ac _) ?_).wider hm.size;intro b o e d;rcases hf with h| h
 ·dsimp only at h;rw[h]at d;exact absurd rfl d
 ·exact h b o e
def FS(g:Nat)(o:Option Nat)(i:Nat):Prop:=i=g\/o=some i
theorem Mods.app{S:Nat->Prop}(h:Mods S w0 w)(hg:w.grownBy w' o)(ho:∀i,o=some i->S i\/w0.heap.size<=i):Mods S w0 w':=
 ⟨hg.os.trans h.os,hg.tape.trans h.tape,hg.output.trans h.output,aC h.size hg.size,λi b c=>(hg.block i (YU b h.size) (λe=>by
  rcases ho i e.symm with a| a
  ·exact c a
  ·omega)).trans (h.block i b c)⟩
structure SF (w0 wf:abP) (g:Nat) (o:Option Nat) (v most:Int) (t:abO) (a k:Nat) (A:Option Addr) (m cm:Nat) (L:List (Pk×Hs)) (x:abP):Prop where
 st:∃K n c,Bk x g SmT (smC v most K n c a k 0)/\Kp w0 x K n c (ls t)
 row:RowI wf x A m cm L
 fresh:∀y∈L,∀i,i<wf.heap.size->gG i y
 lt:g<wf.heap.size
 base:w0.heap.size<=wf.heap.size
 mods:Mods (FS g o) wf x
theorem SF.size(s:SF w0 wf g o v most t a k A m cm L x):wf.heap.size<=x.heap.size:=s.mods.size
theorem SF.below(s:SF w0 wf g o v most t a k A m cm L x)(hb:abQ x y):SF w0 wf g o v most t a k A m cm L y:=by
 obtain⟨K,n,c,b,d⟩:=s.st;exact⟨⟨K,n,c,Yh b hb,d.below hb⟩,s.row.below hb,s.fresh,s.lt,s.base,s.mods.trans (qk hb)⟩
theorem RowK.bk(h:RowK w0 w A n c L)(hm:w.grownBy y (Value.slice A n c).ownBlock)(hb:Bk w g ty cs)(hne:ty≠PkT):Bk y g ty cs:=by
 refine(hm.block g hb.lt λe=>?_).trans hb;rcases h.lies with ⟨rfl,-⟩ | ⟨b,M,rfl,-,a,-⟩
 ·cases e
 ·simp only[Value.ownBlock,aX]at e;subst e;unfold Bk at hb a;rw[hb]at a;simp only[aX,fc]at a;exact hne a.2.1
theorem Kp.row{t:List UInt8}(h:Kp w0 w K m d t)(hr:RowK wf w A n c L)(hm:w.grownBy y (Value.slice A n c).ownBlock):Kp w0 y K m d t:=by
 refine⟨h.len,h.cap,?_⟩;rcases h.lies with a| ⟨g,o,M,a,b,e,f⟩
 ·exact .inl a
 ·exact .inr ⟨g,o,M,a,b,hr.bk hm e (by decide),f⟩
theorem RowI.stream(h:RowI wf w A n c L)(hb:Bk w g SmT (smC v most K m d a k e))(hm:w.grownBy y (some g))(ha:∀x∈L,gG g x):RowI wf y A n c L:=by
 refine⟨h.row.other hm λq b e=>?_,λx j=>(h.ins x j).stream hb hm (ha x j),h.apart⟩;cases e;rcases h.row.lies with ⟨f,-⟩ | ⟨l,M,f,-,i,-⟩
 ·rw[f]at b;cases b
 ·rw[f]at b;cases b;unfold Bk at hb i;rw[i]at hb;simp only[aX,fc]at hb;exact absurd hb.2.1 (by decide)
structure FO (w0 w:abP) (g:Nat) (o:Option Nat) (v most:Int) (r:List Pk×abO×Nat×Nat×Int) (w':abP) (A:Option Addr) (m cm:Nat) (L:List (Pk×Hs)) (K:Option Addr) (n c:Nat):Prop where
 row:RowI w w' A m cm L
 map:L.map Prod.fst=r.1
 bk:Bk w' g SmT (smC v most K n c r.2.2.1 r.2.2.2.1 r.2.2.2.2)
 kp:Kp w0 w' K n c (ls r.2.1)
 mods:Mods (FS g o) w w'
 fresh:∀y∈L,∀i,i<w.heap.size->gG i y
def tN(w0 w:abP)(g:Nat)(o:Option Nat)(v most:Int)(r:List Pk×abO×Nat×Nat×Int)(e:Ending)(w':abP):Prop:=∃A m cm L K n c,e= .returned (.tuple #[.slice A m cm,.int .i64 r.2.2.2.2])/\FO w0 w g o v most r w' A m cm L K n c
theorem xl(s:SF w0 w g o v most t a k A m cm L x)(hr:(L.map Prod.fst,t,a,k,0)=r):tN w0 w g o v most r (.returned (.tuple #[.slice A m cm,.int .i64 0])) x:=by
 subst hr;obtain⟨K,n,c,b,d⟩:=s.st;exact⟨A,m,cm,L,K,n,c,rfl,s.row,rfl,b,d,s.mods,s.fresh⟩
theorem CK{E:Int}(s:SF w0 w g o v most t a k A m cm L x)(hr:(L.map Prod.fst,⟨#[]⟩,a,k,E)=r):
  tN w0 w g o v most r (.returned (.tuple #[.slice A m cm,.int .i64 E])) ((x.setCell ⟨g,2,none⟩ (.slice none 0 0)).setCell ⟨g,5,none⟩ (.int .i64 E)):=by
 subst hr;obtain⟨K,n,c,b,h⟩:=s.st;have d:=(YR x g 2 (.slice none 0 0)).trans (YR (x.setCell ⟨g,2,none⟩ (.slice none 0 0)) g 5 (.int .i64 E));exact⟨A,m,cm,L,none,0,0,rfl,s.row.stream b d (λy f=>s.fresh y f g s.lt),rfl,(b.put 2 (.slice none 0 0)).put 5 (.int .i64 E),Kp.none _ _,s.mods.app d (λi e=>by cases e;exact .inl (.inl rfl)),s.fresh⟩
theorem d9(v most:Int)(g:Nat)(K:Option Addr)(n c a k:Nat)(t s:abO)(w0 w:abP)(hb:Bk w g SmT (smC v most K n c a k 0))(hk:Kp w0 w K n c (ls t))(h0:w0.heap.size<=w.heap.size)(hn:n+s.size<=1000000000)(hak:a<=10000000000/\k<=10000000000):
  Calls prog 9 #[.pointer (some ⟨g,0,none⟩),.string s] w (tN w0 w g (Value.slice K n c).ownBlock v most (smG v most (t++s) a k [])):=by
 have W:=aa hb;have Y:=aa hk;have H0:=aa h0;have HN:=aa hn
 have c5:w.cell? ⟨g,5,none⟩=some (.int .i64 0):=W.o.cell 5;have c2:w.cell? ⟨g,2,none⟩=some (.slice K n c):=W.o.cell 2;have an:=aa hak;have S:Hid ((t++s).size<=1000000000):=aa (by rw[cK,<-aN t,hk.len];exact hn);obtain⟨z,J⟩:∃R,smF v most ((t++s).size+1) (t++s) a k []=R:=⟨_,rfl⟩;rw[show smG v most (t++s) a k []=z from J];obtain⟨O,hO⟩:∃O,(Value.slice K n c).ownBlock=O:=⟨_,rfl⟩;rw[hO];have HO:=aa hO;have aH:=aa J;clear hb hk h0 hn hak J hO;go_enter func9,ntmps9;go_upto_region 5 with fail
 go_upto_region 6 with (at_builtin;refine tQ rfl (.tmp 26) (.tmp 27) rfl (w0:=w0) (K:=K) (n:=n) (c:=c) (t:=ls t) s rfl rfl Y.o H0.o (by have:=HN.o;omega) ?_;intro F H w1 ay d;have C:=Y.o.bk d W.o (by decide);have f2:=C.free 2;have x2:=C.cell 2)
 have aw:=C.put 2 (.slice F (n+s.size) H);have BK:=aa (show Bk (w1.setCell ⟨g,2,none⟩ (.slice F (n+s.size) H)) g SmT (smC v most F (n+s.size) H a k 0)from aw);have KP:=aa (ay.apart C (by decide) (YR w1 g 2 (.slice F (n+s.size) H)));have GL:=aa W.o.lt;have LW:Hid (Mods (FS g O) w (w1.setCell ⟨g,2,none⟩ (.slice F (n+s.size) H))):=aa (((Mods.refl w).app d (λi e=>.inl (.inr (HO.o▸e)))).app (YR w1 g 2 _) (λi e=>by cases e;exact .inl (.inl rfl)));clear aw C f2 x2 ay d c5 c2 W Y;generalize w1.setCell ⟨g,2,none⟩ (.slice F (n+s.size) H)=W1 at*;have aV:Hid (ls t++ls s=ls (t++s)):=aa (fe t s).symm;rw[aV.o]at KP;have aZ:Hid (SF w0 w g O v most (t++s) a k none 0 0 [] W1):=aa ⟨⟨F,n+s.size,H,BK.o,KP.o⟩,RowI.start w W1,by simp,GL.o,H0.o,LW.o⟩;go_wp2
 go_loopg [6] ((t++s).size+1) (λf ov wr=>∃(A:Option Addr) (m cm:Nat) (L:List (Pk×Hs)) (b:abO) (p r:Nat),ov= .slice A m cm/\SF w0 w g O v most b p r A m cm L wr/\b.size<f/\smF v most f b p r (L.map Prod.fst)=z/\b.size<=1000000000/\p+b.size<=100000000000/\r+b.size<=100000000000/\m+b.size<=10000000000)
 case atStart=>exact⟨none,0,0,[],t++s,a,k,rfl,aZ.o,ed _,aH.o,S.o,by have:=S.o;have:=an.o;omega,by have:=S.o;have:=an.o;omega,by have:=S.o;omega⟩
 case round=>
  obtain⟨A,m,cm,L,b,p,r,rfl,hS,az,hF,aA,aB,aC,aD⟩:=hrel;obtain⟨f,rfl⟩:∃f',gk=f'+1:=⟨gk- 1,by omega⟩;rw[mU]at hF;have G:=aa hS;have aT:=aa az;have U:=aa hF
  have u:=aa (And.intro aA (And.intro aB (And.intro aC aD)));obtain⟨K1,M,c1,hb,hk⟩:=hS.st;have ak:=aa hb;have ao:=aa hk
  have N:Hid (b.size=M):=aa (by rw[<-aN];exact hk.len);have CL:=aa (wj v most g K1 M c1 p r 0 b w0 wr hb hk (by omega));have Q:=aa (jD (v:=v) (most:=most) (t:=b));obtain⟨⟨P,q,E⟩,hR⟩:∃R,smN v most b=R:=⟨_,rfl⟩;rw[hR]at U Q CL;dsimp only at U Q;clear hS az hF aA aB aC aD hb hk hR;go_wp2_with fail;refine CL.o.mono ?_;rintro e w2 ⟨j,rfl,hi,Z,hf⟩;have X:=aa (Z.alloc Z.size (.cells (pkC P j) PkT));have S1:=aa (G.o.below X.o);have l:=aa (Yh ak.o X.o);have ap:=aa (ao.o.below X.o);have P2:=aa (hi.next ((aq _ _).alloc (ac _) (.cells (pkC P j) PkT)));have F2:=aa hf;clear hi Z hf CL;dsimp only at P2 F2⊢;by_cases I:E=3
  ·have HX:Hid ((L.map Prod.fst,b,p,r,0)=z):=aa (by
    have:=U.o;rwa[Fl (by rw[I];decide),if_pos I]at this)
   subst I;go_wp2;go_ret2;exact xl S1.o HX.o
  by_cases h0:E=0;rotate_left
  ·have e3:(E==3)=false:=ar.2 I;have e0:(E==0)=false:=ar.2 h0;have f2:=l.o.free 2;have f5:=l.o.free 5
   have x2:=l.o.cell 2;have x5:=l.o.cell 5
   have HX:Hid ((L.map Prod.fst,⟨#[]⟩,p,r,E)=z):=aa (by
    have:=U.o;rwa[Fl h0,Fl I]at this)
   clear I h0;go_wp2;go_ret2;exact CK S1.o HX.o
  subst h0;have aS:Hid (smF v most f (b.extract q b.size) (p+q) (r+1) ((L++[(P,j)]).map Prod.fst)=z):=aa (by
   have:=U.o;rw[if_pos rfl]at this;rw[Ii];exact this)
  obtain⟨q1,q2⟩:=Q.o rfl;have HQ:Hid (2<=q/\q<=M):=aa (by have:=N.o;omega);have D:=(aq (w2.alloc (.cells (pkC P j) PkT)).heap.size (w2.alloc (.cells (pkC P j) PkT))).alloc (ac _) (.cells (pkC P j) PkT);have B:=aa (S1.o.below D);have am:=aa (Yh l.o D);have au:=aa (ap.o.below D);have P3:=aa (P2.o.next D);have R3:=aa (Fs (w2.alloc (.cells (pkC P j) PkT)) P j (g:=w2.heap.size+1) (by simp));have aU:Hid (m+1<=100000000000):=aa (by have:=u.o;have:=HQ.o;have:=N.o;omega);clear I U Q q1 q2 D S1 l ap P2;go_upto_region 14 with (at_builtin;refine oE rfl (.tmp 51) (.tmp 53) rfl (w0:=w) (A:=A) (n:=m) (c:=cm) (L:=L) rfl B.o.row.row B.o.size _ [(P,j)] 1 1 _ rfl rfl (by decide) R3.o aU.o ?_;intro g4 c4 w4 ad d av aO)
  have B4:=aa (B.o.row.row.bk d am.o (by decide));have K4:=aa (au.o.row B.o.row.row d);have I4:=aa (B.o.row.more ad d av (λx V=>by rw[gA.1 V];exact P3.o) (λx V g o e=>by rw[gA.1 V];exact F2.o.apart (G.o.row.row.block e).2));have A4:Hid (∀x∈L++[(P,j)],∀i,i<w.heap.size->gG i x):=aa (λx V i hi=>(cj.1 V).elim (λh=>G.o.fresh x h i hi) (λh=>by rw[gA.1 h];exact F2.o.apart (YU hi G.o.size)));have L4:=aa (B.o.mods.app d (λq hq=>.inr (B.o.row.row.own hq).1));have DC:=aa (wn v most g K1 M c1 p r q 0 w4 B4.o HQ.o.2 ao.o.cap (by have:=u.o;omega) (by have:=u.o;omega) (by have:=u.o;have:=N.o;omega));clear ad d av aO B am au P3 R3;go_wp2_with fail;refine DC.o.mono ?_;rintro e w5 ⟨rfl,ax,T⟩;have S5:Hid (SF w0 w g O v most (b.extract q b.size) (p+q) (r+1) (some ⟨g4,0,none⟩) (m+1) c4 (L++[(P,j)]) w5):=aa ⟨⟨xt K1 M q 1,M- q,M- q,ax,by
   have:=(K4.o.apart B4.o (by decide) T).drop HQ.o.2;rw[EK];exact this⟩,I4.o.stream B4.o T (λy hy=>A4.o y hy g G.o.lt),A4.o,G.o.lt,G.o.base,L4.o.app T (λi e=>by cases e;exact .inl (.inl rfl))⟩
  clear ax T DC;go_wp2
  go_roundg f
  case measure=>omega
  case rel=>
   have h9:=HQ.o;have h8:=N.o;have h7:=u.o;have h6:=aT.o
   have V:(b.extract q b.size).size=b.size- q:=by rw[aj,Nat.min_self]
   exact⟨some ⟨g4,0,none⟩,m+1,c4,L++[(P,j)],b.extract q b.size,p+q,r+1,rfl,S5.o,by omega,aS.o,by omega,by omega,by omega,by omega⟩
end
section
theorem Mods.split(h:Mods (FS g o) w w')(hg:g<w.heap.size):∃z,w.grownBy z (some g)/\z.grownBy w' o:=by
 have c:g<w'.heap.size:=YU hg h.size;refine⟨{w with heap:=w.heap.set g (w'.heap[g]) hg},⟨rfl,rfl,rfl,?_,λi d e=>?_⟩,⟨h.os,h.tape,h.output,?_,λi d e=>?_⟩⟩
 ·show w.heap.size<=(w.heap.set g (w'.heap[g]) hg).size;rw[Array.size_set];exact ac _
 ·show(w.heap.set g (w'.heap[g]) hg)[i]? =w.heap[i]?;rw[Array.getElem?_set_ne hg (λx=>e (by rw[x]))]
 ·show(w.heap.set g (w'.heap[g]) hg).size<=w'.heap.size;rw[Array.size_set];exact h.size
 ·show w'.heap[i]? =(w.heap.set g (w'.heap[g]) hg)[i]?;have f:i<w.heap.size:=by
   have:i<(w.heap.set g (w'.heap[g]) hg).size:=d;rwa[Array.size_set]at this
  by_cases x:g=i
  ·subst x;rw[Array.getElem?_set_self hg,eL c]
  ·rw[Array.getElem?_set_ne hg x];exact h.block i f (λy=>y.elim (λa=>x a.symm) (λb=>e b.symm))
theorem Kp.not{t:List UInt8}(h:Kp w0 w K n c t)(hb:Bk w g ty cs)(hne:ty≠U8):(Value.slice K n c).ownBlock≠some g:=by
 intro e;rcases h.lies with ⟨rfl,-⟩ | ⟨b,o,M,rfl,-,a,-⟩
 ·cases e
 ·simp only[Value.ownBlock,aX]at e;subst e;unfold Bk at hb a;rw[hb]at a;simp only[aX,fc]at a;exact hne a.2.1
theorem RowI.kept(h:RowI wf w A n c L){t:List UInt8}(hk:Kp w0 w K m d t)(hm:w.grownBy y (Value.slice K m d).ownBlock):RowI wf y A n c L:=by
 refine⟨h.row.other hm λq a e=>?_,λx g=>hk.keep hm (h.ins x g),h.apart⟩;rcases h.row.lies with ⟨b,-⟩ | ⟨j,i,b,-,f,-⟩
 ·rw[b]at a;cases a
 ·rw[b]at a;cases a
  exact hk.not f (by decide) e
theorem RowI.fed(h:RowI wf w A n c L){t:List UInt8}(hb:Bk w g SmT (smC v most K m d a k e))(hk:Kp w0 w K m d t)(hm:Mods (FS g (Value.slice K m d).ownBlock) w y)(ha:∀x∈L,gG g x):RowI wf y A n c L:=by
 obtain⟨z,b,f⟩:=hm.split hb.lt;exact(h.stream hb b ha).kept (hk.apart hb (by decide) b) f
theorem Zw{B:Nat}{wk:abP}(h0:Below B w0 w){t:List UInt8}(hg:B<=g)(hB:B<=w.heap.size)(hk:Kp wk w K m d t)(hw:B<=wk.heap.size)(hm:Mods (FS g (Value.slice K m d).ownBlock) w y):Below B w0 y:=
 hm.below h0 hB λi a=>a.elim (λe=>by omega) (λe=>aC hw (hk.own e).1)
theorem Bk.fed{q:Nat}(h:Bk w q ty cs)(h1:ty≠U8){t:List UInt8}(hq:q≠g)(hk:Kp w0 w K m d t)(hm:Mods (FS g (Value.slice K m d).ownBlock) w y):Bk y q ty cs:=
 h.mods hm λx=>x.elim hq (hk.not h h1)
theorem Bk.ne{q:Nat}{tz:TypeId}{ds:Array Value}(h:Bk w q ty cs)(h':Bk w g tz ds)(hne:ty≠tz):q≠g:=by
 rintro rfl;unfold Bk at h h';rw[h]at h';simp only[aX,fc]at h';exact hne h'.2.1
theorem pO(v most:Int)(g:Nat)(K:Option Addr)(n c a k:Nat)(e:Int)(he:e≠0)(s:abO)(w:abP)(hb:Bk w g SmT (smC v most K n c a k e)):
  Calls prog 9 #[.pointer (some ⟨g,0,none⟩),.string s] w λe' w'=>e'= .returned (.tuple #[.slice none 0 0,.int .i64 e])/\abQ w w':=by
 have b:=aa (aq w.heap.size w);have d:w.cell? ⟨g,5,none⟩=some (.int .i64 e):=hb.cell 5;have f:(e !=0)=true:=aA.2 he;clear hb he;go_enter func9,ntmps9;go_wp2;go_quiet (fail);go_wp2;go_ret2;exact⟨rfl,aV b.o _⟩
theorem uo{fn:Func}{p:Tmp}(hr:fn.results= #[.cell p 23])(tmps:Array Value){a b:Value}(hp:tmps.getD p undef= .pointer (some ⟨g,0,none⟩))(hb:Bk w g 23 #[a,b]):(results fn tmps).run prog w= .ok (.agg #[a,b]) w:=by
 obtain⟨⟨c,d⟩,-⟩:=hb.two;rw[Jf]at hp;simp only[results,hr];simp[hp,go_sem,c,d]
theorem FO.len(h:FO w0 w g o v most r w' A m cm L K n c):m=r.1.length:=by
 rw[<-h.map,eD,h.row.row.len]
theorem tg{p:Pk}(h:L.map Prod.fst=[p]):∃k,L=[(p,k)]:=by
 match L,h with
 | [],h=>cases h
 | [(q,k)],h=>
   simp only[fI,gC,gY,Hj]at h;exact⟨k,by rw[h]⟩
 | _ :: _ :: _,h=>simp at h
attribute [local go_sem ↓] xS
attribute [local go_sem] um
def XM(y:abP)(R:Pk×Nat×Int)(pz nz ez:Value)(wx:abP):Prop:=∃hh g,pz= .pointer (some ⟨g,0,none⟩)/\nz= .int .i64 (R.2.1:Nat)/\ez= .int .i64 R.2.2/\y.heap.size<=g/\Bk wx g PkT (pkC R.1 hh)/\PkIn wx wx.heap.size R.1 hh/\abQ y wx/\ja y R.1 hh
theorem WR{w3:abP}{R:Pk×Nat×Int}{hh:Hs}(hi:PkIn w3 w3.heap.size R.1 hh)(hb:Below (y.alloc (.cells (pkC pk0 hs0) PkT)).drew.heap.size (y.alloc (.cells (pkC pk0 hs0) PkT)).drew w3)(hf:ja (y.alloc (.cells (pkC pk0 hs0) PkT)).drew R.1 hh):
  (zc (.pointer (some ⟨y.heap.size,0,none⟩)) (pkV R.1 hh)).run prog w3= .ok () (dE w3 y.heap.size R.1 hh)/\XM y R (.pointer (some ⟨y.heap.size,0,none⟩)) (.int .i64 (R.2.1:Nat)) (.int .i64 R.2.2) (dE w3 y.heap.size R.1 hh):=by
 have b:Bk (y.alloc (.cells (pkC pk0 hs0) PkT)).drew y.heap.size PkT (pkC pk0 hs0):=(Bk.fresh y PkT (pkC pk0 hs0)).drewN 1;have c:=Yh b hb;have a:abQ y (y.alloc (.cells (pkC pk0 hs0) PkT)).drew:=aV ((aq y.heap.size y).alloc (ac _) (.cells (pkC pk0 hs0) PkT)) 1;exact⟨aW c R.1 hh,hh,y.heap.size,rfl,rfl,rfl,ac _,cO c R.1 hh,hi.put c (cJ _ _ _ _) hf b.lt,YQ (Yf a hb) (aC a.size hb.size) (ac _) R.1 hh,hf.mono a.size⟩
theorem Xn{w3:abP}{R:Pk×Nat×Int}{hh:Hs}(hi:PkIn w3 w3.heap.size R.1 hh)(hb:Below y.drew.heap.size y.drew w3)(hf:ja y.drew R.1 hh):
  XM y R (.pointer (some ⟨w3.heap.size,0,none⟩)) (.int .i64 (R.2.1:Nat)) (.int .i64 R.2.2) (w3.alloc (.cells (pkC R.1 hh) PkT)):=
 ⟨hh,w3.heap.size,rfl,rfl,rfl,hb.size,Bk.fresh _ _ _,hi.next ((aq _ _).alloc (ac _) _),((aV (aq y.heap.size y) 1).trans hb).alloc hb.size _,hf⟩
theorem XQ(h:¬nF v mp md=true)(s:abO):lmS v mp md s=([],0,2):=Fl h
theorem Yb(h:nF v mp md=true)(s:abO):lmS v mp md s=((smG v mp s 0 0 []).1,(smG v mp s 0 0 []).2.2.1,(smG v mp s 0 0 []).2.2.2.2):=if_pos h
theorem RowI.wide2(h:RowI w0 x A n c L)(hb:w'.heap.size<=w0.heap.size):RowI w' x A n c L:=by
 refine⟨⟨h.row.len,?_⟩,h.ins,h.apart⟩;rcases h.row.lies with a| ⟨g,M,a,b,d⟩
 ·exact .inl a
 ·exact .inr ⟨g,M,a,aC hb b,d⟩
def SpL(w1:abP)(v mp:Int)(s:abO)(RES:List Pk×Nat×Int)(lv zv:Value)(wr:abP):Prop:=∃(A:Option Addr) (n c:Nat) (L:List (Pk×Hs)) (a:Nat),lv= .slice A n c/\zv= .int .i64 a/\RowI w1 wr A n c L/\abQ w1 wr/\n<=a/\a<=s.size/\RES=((smG v mp (s.extract a s.size) a n (L.map Prod.fst)).1,(smG v mp (s.extract a s.size) a n (L.map Prod.fst)).2.2.1,(smG v mp (s.extract a s.size) a n (L.map Prod.fst)).2.2.2.2)
def sxv(l:List abO):List Value:=l.map Value.string
theorem tX(l:List abO)(x:abO):sxv (l++[x])=sxv l++[.string x]:=by simp[sxv]
theorem xW(l:List abO):∀u∈sxv l,u.oneCell'=true:=by
 intro u a;obtain⟨c,_,rfl⟩:=jX.1 a;rfl
theorem Rd.atS{B:Nat}(h:Rd w B 1 A n (sxv l)){i:Nat}(hi:i<n):∃b o z,A=some ⟨b,o,none⟩/\b<B/\l[i]? =some z/\w.cell? ⟨b,o+i,none⟩=some (.string z):=by
 obtain⟨b,o,u,e,c,f,d⟩:=h.at1 hi;have a:i<l.length:=by have:=h.len;simp[sxv]at this;omega
 refine⟨b,o,l[i],e,c,List.getElem?_eq_getElem a,?_⟩;have:u= .string l[i]:=by simpa [sxv,a]using f.symm
 rw[<-this];exact d
theorem vE:(prog.info? 9).map (λi=>(i.zero,i.size,i.bytes))=some (some (.string ⟨#[]⟩),1,16):=by kernel_rfl
theorem tA{P:Program}{w:abP}{ops:Array Oper}{o:Oper}{a:Act}{K:Act->abP->Prop}{Q:Exit->Act->abP->Prop}{E:Prop}(hgd:o.guard=none)(s x:Operand)(t:TypeId)
  (ho:o.op= .call {callee:=.builtin .append,args:=#[s,x],argTypes:=#[t,t]})
  (base:Nat)(e:TypeId)(z:Value)(size bytes:Nat)(ht:P.underlying t=some (.slice e))(hinfo:(P.info? e).map (λi=>(i.zero,i.size,i.bytes))=some (some z,size,bytes))
  (hzs:z.cells.size=size)(hsz:0<size)(v:Value)(n:Nat)(xs:List Value)(hs:a.eval s=v)(hown:w.ownsRow base e size v n xs)
  (B:Nat)(A:Option Addr)(m c:Nat)(news:List Value)(hx:a.eval x= .slice A m c)(hr:Rd w B size A m news)(h1:∀u∈news,u.oneCell'=true)
  (h63:n+m<=maxLen)(hbytes:(n+m)*bytes<=140737488355328)(hbase:base<=w.heap.size)
  (h:∀v' w',w'.ownsRow base e size v' (n+m) (xs++news)->w.grownBy w' v.ownBlock->(v'.ownBlock=v.ownBlock\/v'.ownBlock=some w.heap.size)->K (a.put o.dst v') w'):
  if Region.wanted o (yielded ops a.tmps)=true then Oper.wp P o a w K Q else E:=by
 have b:Region.wanted o (yielded ops a.tmps)=true:=by simp[Region.wanted,hgd]
 rw[if_pos b];exact vY w s x t ho base e z size bytes ht hinfo hzs hsz v n xs hs hown B A m c news hx hr h1 h63 hbytes hbase h
theorem wY(s:abO)(A:Option Addr)(l:List Int)(c:Nat)(w:abP)(hr:Rd w w.heap.size 1 A l.length (iv l))(hl:l.length<=1000000)(hs:s.size<=1000000000000):
  Calls prog 8 #[.string s,.slice A l.length c] w λe w'=>∃v,e= .returned v/\w'.ownsRow w.heap.size 9 1 v (l.length+1) (sxv (rr s l))/\abQ w w':=by
 have P:=aa hr;have Q:=aa hs;have x:=aa hl
 clear hr hs hl;go_enter func8,ntmps8;go_wp2
 go_loopw [0,5,6] (λsv o i wr=>∃k:Nat,k<=l.length/\i= .int .i64 k/\sv= .string (mf s (l.take k)).2/\wr.ownsRow w.heap.size 9 1 o k (sxv (mf s (l.take k)).1)/\abQ w wr) (λ_ _ i _=>l.length- (intOf i).toNat)
 case atStart=>exact⟨0,by omega,rfl,rfl,dD _ _ _ _,aq _ _⟩
 case round=>
  obtain⟨k,U,rfl,rfl,D,C⟩:=hrel;have d:=aa D;have b:=aa C
  have h:Hid ((mf s (l.take k)).2.size<=1000000000000):=aa (aC (xr (l.take k) ([],s)) Q.o);clear D;by_cases n:k<l.length
  ·obtain⟨V,oA,z,rfl,S,K,T⟩:=(P.o.below C).atI n;have H:l[k]=z:=by rw[List.getElem?_eq_getElem n]at K;exact Option.some.inj K
   have y:Hid (mf s (l.take (k+1))=qG (mf s (l.take k)) z):=aa (by rw[Aj s n,H]);obtain⟨⟨L,t⟩,B⟩:∃r,mf s (l.take k)=r:=⟨_,rfl⟩;rw[B]at d h y⊢;obtain⟨N,O⟩:=EM t z;have p:Hid (qG (L,t) z=(L++[t.extract 0 (tB t z)],t.extract (tB t z) t.size)):=aa rfl;have m:=aa (λW=>BO z ((t.size:Int)+1) W (by have:=h.o;dsimp only at this;omega));rw[show mq z ((t.size:Int)+1)=(tB t z:Int)from N]at m;dsimp only at d h⊢;obtain⟨q,M⟩:∃q,tB t z=q:=⟨_,rfl⟩;rw[M]at O m p;have b1:(0:Int)<=(k:Int):=by omega
   have b2:(k:Int)<(l.length:Int):=by omega
   have G:wrap64 ((k:Int)+1)=((k+1:Nat):Int):=by have:=x.o;unfold wrap64;omega
   have X:(0:Int)<=(q:Int):=by omega
   have Y:(q:Int)<=(t.size:Int):=by omega
   have Z:(t.size:Int)+1<=9223372036854775807:=by have:=h.o;omega
   have I:Hid (sxv (L++[t.extract 0 q])=sxv L++[.string (t.extract 0 q)]):=aa (tX _ _);clear K H M N O B;go_wp2_with fail;refine(m.o _).mono ?_;rintro e w2 ⟨rfl,rfl⟩;clear m T S;go_wp2_with fail
   go_region_law (refine tA (by rfl) _ _ 35 (by rfl) w.heap.size 9 (.string ⟨#[]⟩) 1 16 underlying35 vE rfl (by decide) _ k _ (by rfl) (by first| exact d.o.alloc _| exact lV (d.o.alloc _) 1) _ _ 1 1 [.string (t.extract 0 q)] (by rfl) (by first| exact Rd.lit _ _ _ rfl (ed _) rfl) (xW [t.extract 0 q]) (by have:=x.o;unfold maxLen;omega) (by have:=x.o;omega) (by have:=b.o.size;simp;omega) ?_;intro F E a f j)
   all_goals
    have R:E.ownsRow w.heap.size 9 1 F (k+1) (sxv (L++[t.extract 0 q]))/\abQ w E:=⟨by rw[I.o];exact a,kz (by first| exact b.o.alloc b.o.size _| exact aV (b.o.alloc b.o.size _) 1) f (by have:=b.o.size;simp;omega) (λg J=>(cX d.o g J).1)⟩;clear a f j;go_wp2;go_roundw
    case rel=>exact⟨k+1,by omega,by rw[G],by rw[y.o,p.o],by rw[y.o,p.o];exact R.1,R.2⟩
    case measure=>rw[G];simp only[intOf,dN];omega
  ·obtain rfl:k=l.length:=by omega
   rw[GK]at d h⊢;have u:Hid (rr s l=(mf s l).1++[(mf s l).2]):=aa rfl;obtain⟨⟨L,t⟩,B⟩:∃r,mf s l=r:=⟨_,rfl⟩;rw[B]at d h u⊢;dsimp only at d h u⊢;have I:Hid (sxv (rr s l)=sxv L++[.string t]):=aa (by rw[u.o];exact tX _ _);have b2:(l.length:Int)<=(l.length:Int):=Int.le_refl _;clear B n U;go_wp2_with (at_builtin;refine kF _ rfl (.tmp 31) (.tmp 33) 35 rfl w.heap.size 9 (.string ⟨#[]⟩) 1 16 underlying35 vE rfl (by decide) _ l.length _ rfl (d.o.alloc _) _ _ 1 1 [.string t] rfl (Rd.lit _ _ _ rfl (ed _) rfl) (xW [t]) (by have:=x.o;unfold maxLen;omega) (by have:=x.o;omega) (by have:=b.o.size;simp;omega) ?_;intro F E a f j);have R:E.ownsRow w.heap.size 9 1 F (l.length+1) (sxv (rr s l))/\abQ w E:=⟨by rw[I.o];exact a,kz (b.o.alloc b.o.size _) f (by have:=b.o.size;simp;omega) (λg J=>(cX d.o g J).1)⟩;clear a f j;go_wp2;go_ret;exact⟨F,rfl,R.1,R.2⟩
end
section
theorem aaU(h:nF v mp md≠true):nF v mp md=false:=by
 cases e:nF v mp md
 ·rfl
 ·exact absurd e h
theorem tY(h:nF v mp md=true):YG v=true:=by
 unfold nF at h;simp only[eh]at h;exact h.1
theorem xX:∀(N:Nat) (t:abO) (a k:Nat) (l:List Pk),t.size<=N->N<=1000000000000->(∀p∈l,PkOk p)->∀p∈(smG v most t a k l).1,PkOk p
 | N,t,a,k,l,hN,hb,hl=>by
   rw[fK];split
   ·rename_i h0;have h1:=jD h0;have c:(t.extract (smN v most t).2.1 t.size).size=t.size- (smN v most t).2.1:=by rw[aj];omega
    match N,hN,hb with
    | 0,hN,_=>omega
    | N+1,hN,hb=>
      refine xX N _ _ _ _ (by omega) (by omega) ?_;intro p b;rcases cj.1 b with b| b
      ·exact hl p b
      ·rw[gA.1 b];exact Fn (by omega)
   ·split
    ·exact hl
    ·exact hl
theorem zn(A:Option Addr)(n c:Nat)(hn:n<=c)(X:Option Addr)(cx:Nat)(ty:TypeId)(w:abP):
  (Builtin.append_ #[27,27] ty #[.slice A n c,.slice X 0 cx]).run prog w= .ok (.slice A n c) w:=by
 obtain⟨i,b,f,a,e⟩:=o8 vm;have d:=underlying27;cases X<;>cases A<;>simp[Builtin.append_,run_underlying d,sizeOf,typeInfo,b,Builtin.lenOf,Builtin.firstCells,hn,loadCells,loadCellsFrom,storeCells]
theorem tP{w:abP}{ops:Array Oper}{rest:List Oper}{o:Oper}{a:Act}{Q:Exit->Act->abP->Prop}(hgd:o.guard=none)(s x:Operand)
  (ho:o.op= .call {callee:=.builtin .append,args:=#[s,x],argTypes:=#[27,27]})
  {w0:abP}{A:Option Addr}{n c:Nat}{L:List (Pk×Hs)}(hs:a.eval s= .slice A n c)(hr:RowI w0 w A n c L)(h0:w0.heap.size<=w.heap.size)(X:Option Addr)(N:List (Pk×Hs))(m cx:Nat)(hx:a.eval x= .slice X m cx)(hsr:RdK w X m N)(hap:∀y∈N,∀g o,A=some ⟨g,o,none⟩->gG g y)(hb:n+m<=100000000000)
  (h:∀A' c' w',RowI w0 w' A' (n+m) c' (L++N)->w.grownBy w' (Value.slice A n c).ownBlock->wpList prog ops Q rest (a.put o.dst (.slice A' (n+m) c')) w'):wpList prog ops Q (o :: rest) a w:=by
 rcases dh m with rfl| k
 ·obtain rfl:N=[]:=aF hsr.len;refine Y6 hgd λ_ j=>?_;unfold Oper.wp execOp;simp only[ho,resolve,invoke,builtin,Sem.run_bind,Sem.run_pure,ik,kD,fI,gC,hs,hx,zn A n c hr.row.cap X cx];exact j _ _ (h A c w (by rw[YO];exact hr) (jy w _))
 ·obtain⟨f,rfl,-⟩:=hsr.rd.addr (by
   intro e;have b:=gJ N;have d:=hsr.len;rw[e]at b;simp at b;omega)
  exact oE hgd s x ho hs hr.row h0 f N m cx _ hx hsr.len k hsr.rd hb λg c' w' b d i _=>h _ _ _ (hr.more b d i hsr.ins hap) d
section
variable {w wb:abP} {v most md:Int} {ga gb gl:Nat} {R:List Pk×abO×Nat×Nat×Int} {A1:Option Addr} {m1 cm1:Nat} {L1:List (Pk×Hs)} {cv:Value} {C:List abO} {t:abO} {a k:Nat} {e:Int} {x y:abP}
theorem Eg(h:x.ownsRow w.heap.size 9 1 cv C.length (sxv C)){u:List UInt8}(h4:Bk x gb SmT cs)(h5:Kp wb x K n c u)(hm:Mods (FS gb (Value.slice K n c).ownBlock) x y):y.ownsRow w.heap.size 9 1 cv C.length (sxv C):=by
 refine jg h hm λg a d=>d.elim (λe=>nS h h4 (by decide) (by rw[a,e])) (λe=>?_);rcases h5.lies with ⟨rfl,-⟩ | ⟨q,o,M,rfl,-,b,-⟩
 ·cases e
 ·simp only[Value.ownBlock,aX]at e;subst e;exact nS h b (by decide) a
end
theorem RdK.none(x:abP):RdK x none 0 []:=⟨Rd.nil _ _ _ _,by simp⟩
theorem DK{base:Nat}{xs:List Value}(h:w.ownsRow base 9 1 (.slice A n c) n xs):Rd w w.heap.size 1 A n xs:=by
 obtain⟨d,e,a,f,b⟩:=jK h;cases a;exact b
theorem kO(hm:16<=most){T:abO}{l:List Pk}(h:smG v most T 0 0 []=(l,t,a,k,e)):(t.size:Int)<=most- 1/\k=l.length/\t.size<=T.size/\a<=T.size/\k<=T.size:=by
 obtain⟨b,c,d,f,g,j⟩:=sG v most _ T 0 0 [] (ac _);rw[h]at b c d f g;simp only[eC]at b c d f g;refine⟨?_,by omega,by omega,by omega,by omega⟩;by_cases i:e=0
 ·exact(mT (b i) hm).2.2
 ·rw[c i];show((0:Nat):Int)<=most- 1;omega
theorem zX{x:abO}(h:x∈l):x.size<=(jO l).size:=by
 obtain⟨a,b,rfl⟩:=List.append_of_mem h;rw[<-aN,<-aN,ko,fR,YS];simp only[List.length_append];omega
theorem wZ{i:Nat}{x:abO}(h:l[i]? =some x):jO (l.take (i+1))=jO (l.take i)++x:=by
 obtain⟨a,rfl⟩:=YI.1 h;rw[fE a,xa]
theorem ze(h:nF v mp md=true):16<=mp/\mp<=1048576:=by
 unfold nF at h;simp only[eh,Fx]at h;omega
end
section
structure SLm (w wb:abP) (v most:Int) (gb:Nat) (cv:Value) (C:List abO) (t:abO) (a k:Nat) (e:Int) (x:abP):Prop where
 sb:∃K n c,Bk x gb SmT (smC v most K n c a k e)/\Kp wb x K n c (ls t)
 chunks:x.ownsRow w.heap.size 9 1 cv C.length (sxv C)
 low:abQ w x
 base:w.heap.size<=wb.heap.size/\wb.heap.size<=x.heap.size/\w.heap.size<=gb
section
variable {w wb:abP} {v most:Int} {gb:Nat} {cv:Value} {C:List abO} {t:abO} {a k:Nat} {e:Int} {x y:abP}
theorem SLm.below(s:SLm w wb v most gb cv C t a k e x)(hb:abQ x y):SLm w wb v most gb cv C t a k e y:=by
 obtain⟨K,n,c,b,f⟩:=s.sb;obtain⟨b1,b2,d⟩:=s.base;exact⟨⟨K,n,c,Yh b hb,f.below hb⟩,dV s.chunks hb,Yf s.low hb,b1,aC b2 hb.size,d⟩
theorem SLm.fed(s:SLm w wb v most gb cv C t a k e x){K':Option Addr}{n' c':Nat}(h4:Bk x gb SmT (smC v most K' n' c' a k e))(h5:Kp wb x K' n' c' (ls t)){r:List Pk×abO×Nat×Nat×Int}{A2:Option Addr}{m2 cm2:Nat}{L2:List (Pk×Hs)}{K2:Option Addr}{n2 c2:Nat}
  (F:FO wb x gb (Value.slice K' n' c').ownBlock v most r y A2 m2 cm2 L2 K2 n2 c2):SLm w wb v most gb cv C r.2.1 r.2.2.1 r.2.2.2.1 r.2.2.2.2 y:=by
 obtain⟨b1,b2,b⟩:=s.base;exact⟨⟨K2,n2,c2,F.bk,F.kp⟩,Eg s.chunks h4 h5 F.mods,Zw s.low b s.low.size h5 b1 F.mods,b1,aC b2 F.mods.size,b⟩
theorem SLm.app(s:SLm w wb v most gb cv C t a k e x)(hr:RowI wb x A m cm L)(hm:x.grownBy y (Value.slice A m cm).ownBlock):SLm w wb v most gb cv C t a k e y:=by
 obtain⟨b,p,d,f,h⟩:=s.sb;obtain⟨b1,b2,c⟩:=s.base;have l:Mods (λi=>(Value.slice A m cm).ownBlock=some i) x y:=(Mods.refl x).app hm (λi e=>.inl e);refine⟨⟨b,p,d,hr.row.bk hm f (by decide),h.row hr.row hm⟩,jg s.chunks l λg n e=>?_,kz s.low hm s.low.size (λq o=>aC b1 (hr.row.own o).1),b1,aC b2 hm.size,c⟩;rcases hr.row.lies with ⟨rfl,-⟩ | ⟨q,M,rfl,-,j,-⟩
 ·cases e
 ·simp only[Value.ownBlock,aX]at e;subst e;exact nS s.chunks j (by decide) n
end
theorem abK{w wb x:abP}{v mp:Int}{gb:Nat}{cv:Value}{C:List abO}{t u T:abO}{a k:Nat}{e:Int}{A:Option Addr}{m cm:Nat}{L:List (Pk×Hs)}
  (s:SLm w wb v mp gb cv C t a k e x)(hr:RowI wb x A m cm L)(hap:∀y∈L,gG gb y)(hres:smG v mp T 0 0 []=(L.map Prod.fst,t,a,k,e))(hm:16<=mp)(hT:T.size<=1000000)(hu:u.size<=1000000):
  Calls prog 9 #[.pointer (some ⟨gb,0,none⟩),.string u] x λe' y=>∃A2 m2 cm2 L2 t2 a2 k2 e2,e'= .returned (.tuple #[.slice A2 m2 cm2,.int .i64 e2])/\SLm w wb v mp gb cv C t2 a2 k2 e2 y/\RowI wb y A m cm L/\RdK y A2 m2 L2/\(∀z∈L2,gG gb z)/\(∀z∈L2,∀g o,A=some ⟨g,o,none⟩->gG g z)/\
   smG v mp (T++u) 0 0 []=((L++L2).map Prod.fst,t2,a2,k2,e2):=by
 obtain⟨q,k2,r,B,D⟩:=kO hm hres;obtain⟨K,n,c,b,d⟩:=s.sb;have p:n=t.size:=by rw[<-aN];exact d.len.symm
 by_cases f:e=0
 ·subst f;refine(d9 v mp gb K n c a k t u wb x b d s.base.2.1 (by omega) (by omega)).mono ?_;rintro e' y ⟨A2,m2,cm2,L2,j,E,l,rfl,F⟩;refine⟨A2,m2,cm2,L2,_,_,_,_,rfl,s.fed b d F,hr.fed b d F.mods hap,F.row.read,λz h=>F.fresh z h gb b.lt,λz h g o e=>F.fresh z h g (hr.row.block e).2,?_⟩;rw[CM hres,Ii,F.map]
 ·refine Yg (pO v mp gb K n c a k e f u x b) λy i=>?_;refine⟨none,0,0,[],t,a,k,e,rfl,s.below i,hr.below i,RdK.none _,by simp,by simp,?_⟩;rw[EJ hres f,YO]
end
