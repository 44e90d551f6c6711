/- A part of what the laws stand on: MsF, MsG, MsK. -/
import Derived.Test.YtbdgkkmbnahgiaaGreatDoorMfG0MsB
set_option maxRecDepth 10000
set_option maxHeartbeats 8000000
namespace Go.Proofs.YtbdgkkmbnahgiaaGreatDoor
open Go.RowKit Go.Proofs.Tryz
section
attribute [local go_sem ↓] bD bF bH bI bu
attribute [local go_sem] bc aD bh bg bK bJ bd aY be aO ax cI dC dB dt dj di dA dr dp dn bW co bO bZ bX cz cy cw cu ct cC cn bS bP bR
attribute [local go_sem ↓] xS
attribute [local go_sem] um
theorem DD{w:World}{o:Oper}{a:Act}{J:Act->World->Prop}{Q:Exit->Act->World->Prop}(x y:Operand)
  (ho:o.op= .call {callee:=.builtin .append,args:=#[x,y],argTypes:=#[80,9]})
  {w0:World}{K:Option Addr}{n c:Nat}{t:List UInt8}(s:ByteArray)(hx:a.eval x= .slice K n c)(hy:a.eval y= .string s)(hr:Kp w0 w K n c t)(h0:w0.heap.size<=w.heap.size)(hb:n+s.size<=1000000000000)
  (h:∀K' c' w',Kp w0 w' K' (n+s.size) c' (t++ls s)->w.grownBy w' (Value.slice K n c).ownBlock->J (a.put o.dst (.slice K' (n+s.size) c')) w'):o.wp prog a w J Q:=by
 obtain⟨K',c',w',hrun,h1,h2⟩:=Bp hr h0 o.type s hb;unfold Oper.wp execOp;simp only[ho,resolve,invoke,builtin,Sem.run_bind,Sem.run_pure,ik,kD,fI,gC,hx,hy,hrun];exact h K' c' w' h1 h2
theorem tQ{w:World}{ops:Array Oper}{rest:List Oper}{o:Oper}{a:Act}{Q:Exit->Act->World->Prop}(hgd:o.guard=none)(x y:Operand)
  (ho:o.op= .call {callee:=.builtin .append,args:=#[x,y],argTypes:=#[80,9]})
  {w0:World}{K:Option Addr}{n c:Nat}{t:List UInt8}(s:ByteArray)(hx:a.eval x= .slice K n c)(hy:a.eval y= .string s)(hr:Kp w0 w K n c t)(h0:w0.heap.size<=w.heap.size)(hb:n+s.size<=1000000000000)
  (h:∀K' c' w',Kp w0 w' K' (n+s.size) c' (t++ls s)->w.grownBy w' (Value.slice K n c).ownBlock->wpList prog ops Q rest (a.put o.dst (.slice K' (n+s.size) c')) w'):wpList prog ops Q (o :: rest) a w:=
 lb hgd fun _ hK=>DD x y ho s hx hy hr h0 hb fun K' c' w' h1 h2=>hK _ _ (h K' c' w' h1 h2)
theorem t8(v most:Int)(K:Option Addr)(n c a k:Nat)(e:Int):∀(i:Nat) (m:Int),(smC v most K n c a k e)[i]? ≠some (Value.int IntKind.u32 m):=by
 intro i m;rcases i with _| _| _| _| _| _| i<;>simp[smC]
theorem Bb(v most:Int)(K:Option Addr)(n c a k:Nat)(e:Int)(o:Nat)(x:ByteArray)(b:Int)(_c d:Bool)(h0:(smC v most K n c a k e)[o]? =some (.string x))(_h1:(smC v most K n c a k e)[o+1]? =some (.int .i64 b))(_h3:(smC v most K n c a k e)[o+3]? =some (.bool d)):False:=by
 rcases o with _| _| _| _| _| _| o<;>simp[smC]at h0
theorem PkIn.stream{x y:World}{g:Nat}{p:Pk}{h:Hs}{v most:Int}{K:Option Addr}{n c a k:Nat}{e:Int}(hi:PkIn x x.heap.size p h)(hbk:Bk x g SmT (smC v most K n c a k e))(hm:x.grownBy y (some g))(hf:gG g (p,h)):PkIn y y.heap.size p h:=by
 refine⟨(hi.wp.other hbk (t8 _ _ _ _ _ _ _ _) hm (ac _)).wider hm.size,?_,(hi.filters.otherN hbk (Bb _ _ _ _ _ _ _ _) hm (ac _)).wider hm.size,(hi.props.other hbk (t8 _ _ _ _ _ _ _ _) hm (ac _)).wider hm.size,hi.caps⟩;refine(hi.codes.grown hm (ac _) ?_).wider hm.size;intro b o e hx;rcases hf with h| h
 ·dsimp only at h;rw[h]at hx;exact absurd rfl hx
 ·exact h b o e
def FS(g:Nat)(o:Option Nat)(i:Nat):Prop:=i=g\/o=some i
theorem Mods.app{S:Nat->Prop}{w0 w w':World}{o:Option Nat}(h:Mods S w0 w)(hg:w.grownBy w' o)(ho:∀i,o=some i->S i\/w0.heap.size<=i):Mods S w0 w':=
 ⟨hg.os.trans h.os,hg.tape.trans h.tape,hg.output.trans h.output,aC h.size hg.size,fun i hi hs=>(hg.block i (ch hi h.size) (fun e=>by
  rcases ho i e.symm with h1| h1
  ·exact hs h1
  ·omega)).trans (h.block i hi hs)⟩
structure SF (w0 wf:World) (g:Nat) (o:Option Nat) (v most:Int) (t:ByteArray) (a k:Nat) (A:Option Addr) (m cm:Nat) (L:List (Pk×Hs)) (x:World):Prop where
 st:∃K n c,Bk x g SmT (smC v most K n c a k 0)/\Kp w0 x K n c (ls t)
 row:RowI wf x A m cm L
 fresh:∀y∈L,∀i,i<wf.heap.size->gG i y
 lt:g<wf.heap.size
 base:w0.heap.size<=wf.heap.size
 mods:Mods (FS g o) wf x
theorem SF.size{w0 wf:World}{g:Nat}{o:Option Nat}{v most:Int}{t:ByteArray}{a k:Nat}{A:Option Addr}{m cm:Nat}{L:List (Pk×Hs)}{x:World}(s:SF w0 wf g o v most t a k A m cm L x):wf.heap.size<=x.heap.size:=s.mods.size
theorem SF.below{w0 wf:World}{g:Nat}{o:Option Nat}{v most:Int}{t:ByteArray}{a k:Nat}{A:Option Addr}{m cm:Nat}{L:List (Pk×Hs)}{x y:World}(s:SF w0 wf g o v most t a k A m cm L x)(hb:Below x.heap.size x y):SF w0 wf g o v most t a k A m cm L y:=by
 obtain⟨K,n,c,h1,h2⟩:=s.st;exact⟨⟨K,n,c,h1.below hb h1.lt,h2.below hb⟩,s.row.below hb,s.fresh,s.lt,s.base,s.mods.trans (Mods.of_below hb)⟩
theorem RowK.bk{w0 w y:World}{A:Option Addr}{n c:Nat}{L:List (Pk×Hs)}(h:RowK w0 w A n c L)(hm:w.grownBy y (Value.slice A n c).ownBlock){g:Nat}{ty:TypeId}{cs:Array Value}(hb:Bk w g ty cs)(hne:ty≠PkT):Bk y g ty cs:=by
 refine(hm.block g hb.lt fun e=>?_).trans hb;rcases h.lies with ⟨rfl,-⟩ | ⟨g',M,rfl,-,h3,-⟩
 ·cases e
 ·simp only[Value.ownBlock,aX]at e;subst e;unfold Bk at hb h3;rw[hb]at h3;simp only[aX,fc]at h3;exact hne h3.2.1
theorem Kp.row{w0 wf w y:World}{K:Option Addr}{m d:Nat}{t:List UInt8}(h:Kp w0 w K m d t){A:Option Addr}{n c:Nat}{L:List (Pk×Hs)}(hr:RowK wf w A n c L)(hm:w.grownBy y (Value.slice A n c).ownBlock):Kp w0 y K m d t:=by
 refine⟨h.len,h.cap,?_⟩;rcases h.lies with h1| ⟨g,o,M,h1,h2,h3,h4⟩
 ·exact .inl h1
 ·exact .inr ⟨g,o,M,h1,h2,hr.bk hm h3 (by decide),h4⟩
theorem RowI.stream{wf w y:World}{A:Option Addr}{n c:Nat}{L:List (Pk×Hs)}(h:RowI wf w A n c L){g:Nat}{v most:Int}{K:Option Addr}{m d a k:Nat}{e:Int}(hb:Bk w g SmT (smC v most K m d a k e))(hm:w.grownBy y (some g))(ha:∀x∈L,gG g x):RowI wf y A n c L:=by
 refine⟨h.row.other hm fun q hq e=>?_,fun x hx=>(h.ins x hx).stream hb hm (ha x hx),h.apart⟩;cases e;rcases h.row.lies with ⟨h1,-⟩ | ⟨g',M,h1,-,h3,-⟩
 ·rw[h1]at hq;cases hq
 ·rw[h1]at hq;cases hq;unfold Bk at hb h3;rw[h3]at hb;simp only[aX,fc]at hb;exact absurd hb.2.1 (by decide)
structure FO (w0 w:World) (g:Nat) (o:Option Nat) (v most:Int) (r:List Pk×ByteArray×Nat×Nat×Int) (w':World) (A:Option Addr) (m cm:Nat) (L:List (Pk×Hs)) (K:Option Addr) (n c:Nat):Prop where
 row:RowI w w' A m cm L
 map:L.map Prod.fst=r.1
 bk:Bk w' g SmT (smC v most K n c r.2.2.1 r.2.2.2.1 r.2.2.2.2)
 kp:Kp w0 w' K n c (ls r.2.1)
 mods:Mods (FS g o) w w'
 fresh:∀y∈L,∀i,i<w.heap.size->gG i y
def tN(w0 w:World)(g:Nat)(o:Option Nat)(v most:Int)(r:List Pk×ByteArray×Nat×Nat×Int)(e:Ending)(w':World):Prop:=∃A m cm L K n c,e= .returned (.tuple #[.slice A m cm,.int .i64 r.2.2.2.2])/\FO w0 w g o v most r w' A m cm L K n c
theorem xl{w0 w x:World}{g:Nat}{o:Option Nat}{v most:Int}{t:ByteArray}{a k:Nat}{A:Option Addr}{m cm:Nat}{L:List (Pk×Hs)}{r:List Pk×ByteArray×Nat×Nat×Int}(s:SF w0 w g o v most t a k A m cm L x)(hr:(L.map Prod.fst,t,a,k,0)=r):tN w0 w g o v most r (.returned (.tuple #[.slice A m cm,.int .i64 0])) x:=by
 subst hr;obtain⟨K,n,c,h1,h2⟩:=s.st;exact⟨A,m,cm,L,K,n,c,rfl,s.row,rfl,h1,h2,s.mods,s.fresh⟩
theorem CK{w0 w x:World}{g:Nat}{o:Option Nat}{v most:Int}{t:ByteArray}{a k:Nat}{A:Option Addr}{m cm:Nat}{L:List (Pk×Hs)}{E:Int}{r:List Pk×ByteArray×Nat×Nat×Int}(s:SF w0 w g o v most t a k A m cm L x)(hr:(L.map Prod.fst,⟨#[]⟩,a,k,E)=r):
  tN w0 w g o v most r (.returned (.tuple #[.slice A m cm,.int .i64 E])) ((x.setCell ⟨g,2,none⟩ (.slice none 0 0)).setCell ⟨g,5,none⟩ (.int .i64 E)):=by
 subst hr;obtain⟨K,n,c,h1,h2⟩:=s.st;have hm:=(cP x g 2 (.slice none 0 0)).trans (cP (x.setCell ⟨g,2,none⟩ (.slice none 0 0)) g 5 (.int .i64 E));exact⟨A,m,cm,L,none,0,0,rfl,s.row.stream h1 hm (fun y hy=>s.fresh y hy g s.lt),rfl,(h1.put 2 (.slice none 0 0)).put 5 (.int .i64 E),Kp.none _ _,s.mods.app hm (fun i e=>by cases e;exact .inl (.inl rfl)),s.fresh⟩
theorem d9(v most:Int)(g:Nat)(K:Option Addr)(n c a k:Nat)(t s:ByteArray)(w0 w:World)(hb:Bk w g SmT (smC v most K n c a k 0))(hk:Kp w0 w K n c (ls t))(h0:w0.heap.size<=w.heap.size)(hn:n+s.size<=1000000000)(hak:a<=10000000000/\k<=10000000000):
  Calls prog 35 #[.pointer (some ⟨g,0,none⟩),.string s] w (tN w0 w g (Value.slice K n c).ownBlock v most (smG v most (t++s) a k [])):=by
 have HB:=aa hb;have HKP:=aa hk;have H0:=aa h0;have HN:=aa hn
 have c5:w.cell? ⟨g,5,none⟩=some (.int .i64 0):=HB.o.cell 5;have c2:w.cell? ⟨g,2,none⟩=some (.slice K n c):=HB.o.cell 2;have HAK:=aa hak;have HSZ:Hid ((t++s).size<=1000000000):=aa (by rw[cK,<-aN t,hk.len];exact hn);obtain⟨RES,hRES⟩:∃R,smF v most ((t++s).size+1) (t++s) a k []=R:=⟨_,rfl⟩;rw[show smG v most (t++s) a k []=RES from hRES];obtain⟨O,hO⟩:∃O,(Value.slice K n c).ownBlock=O:=⟨_,rfl⟩;rw[hO];have HO:=aa hO;have HRES:=aa hRES;clear hb hk h0 hn hak hRES hO;go_enter func35,ntmps35
 go_upto_region 5 with fail
 go_upto_region 6 with (at_builtin;refine tQ rfl (.tmp 26) (.tmp 27) rfl (w0:=w0) (K:=K) (n:=n) (c:=c) (t:=ls t) s rfl rfl HKP.o H0.o (by have:=HN.o;omega) ?_;intro K' c' w1 hkp hgr;have hb1:=HKP.o.bk hgr HB.o (by decide);have f2:=hb1.free 2;have x2:=hb1.cell 2)
 have hb2:=hb1.put 2 (.slice K' (n+s.size) c');have BK:=aa (show Bk (w1.setCell ⟨g,2,none⟩ (.slice K' (n+s.size) c')) g SmT (smC v most K' (n+s.size) c' a k 0)from hb2);have KP:=aa (hkp.apart hb1 (by decide) (cP w1 g 2 (.slice K' (n+s.size) c')));have GL:=aa HB.o.lt;have LW:Hid (Mods (FS g O) w (w1.setCell ⟨g,2,none⟩ (.slice K' (n+s.size) c'))):=aa (((Mods.refl w).app hgr (fun i e=>.inl (.inr (HO.o▸e)))).app (cP w1 g 2 _) (fun i e=>by cases e;exact .inl (.inl rfl)));clear hb2 hb1 f2 x2 hkp hgr c5 c2 HB HKP;generalize w1.setCell ⟨g,2,none⟩ (.slice K' (n+s.size) c')=W1 at*;have HTS:Hid (ls t++ls s=ls (t++s)):=aa (fe t s).symm;rw[HTS.o]at KP;have SF0:Hid (SF w0 w g O v most (t++s) a k none 0 0 [] W1):=aa ⟨⟨K',n+s.size,c',BK.o,KP.o⟩,RowI.start w W1,by simp,GL.o,H0.o,LW.o⟩;go_wp2
 go_loopg [6] ((t++s).size+1) (fun f ov wr=>∃(A:Option Addr) (m cm:Nat) (L:List (Pk×Hs)) (t':ByteArray) (a' k':Nat),ov= .slice A m cm/\SF w0 w g O v most t' a' k' A m cm L wr/\t'.size<f/\smF v most f t' a' k' (L.map Prod.fst)=RES/\t'.size<=1000000000/\a'+t'.size<=100000000000/\k'+t'.size<=100000000000/\m+t'.size<=10000000000)
 case atStart=>exact⟨none,0,0,[],t++s,a,k,rfl,SF0.o,ed _,HRES.o,HSZ.o,by have:=HSZ.o;have:=HAK.o;omega,by have:=HSZ.o;have:=HAK.o;omega,by have:=HSZ.o;omega⟩
 case round=>
  obtain⟨A,m,cm,L,t',a',k',rfl,hS,hlt,hF,hz1,hz2,hz3,hz4⟩:=hrel;obtain⟨f,rfl⟩:∃f',gk=f'+1:=⟨gk- 1,by omega⟩;rw[mU]at hF;have S0:=aa hS;have HLT:=aa hlt;have HF:=aa hF
  have HZS:=aa (And.intro hz1 (And.intro hz2 (And.intro hz3 hz4)));obtain⟨K1,n1,c1,hb,hk⟩:=hS.st;have BK1:=aa hb;have KP1:=aa hk
  have HN1:Hid (t'.size=n1):=aa (by rw[<-aN];exact hk.len);have CL:=aa (wj v most g K1 n1 c1 a' k' 0 t' w0 wr hb hk (by omega));have HST:=aa (jD (v:=v) (most:=most) (t:=t'));obtain⟨⟨P,q,E⟩,hR⟩:∃R,smN v most t'=R:=⟨_,rfl⟩;rw[hR]at HF HST CL;dsimp only at HF HST;clear hS hlt hF hz1 hz2 hz3 hz4 hb hk hR
  go_wp2_with fail
  refine CL.o.mono ?_;rintro e w2 ⟨hh,rfl,hi,hbw,hf⟩;have HBW:=aa (hbw.alloc hbw.size (.cells (pkC P hh) PkT));have S1:=aa (S0.o.below HBW.o);have BK2:=aa (BK1.o.below HBW.o BK1.o.lt);have KP2:=aa (KP1.o.below HBW.o);have P2:=aa (hi.next ((aq _ _).alloc (ac _) (.cells (pkC P hh) PkT)));have F2:=aa hf;clear hi hbw hf CL;dsimp only at P2 F2⊢
  by_cases h3:E=3
  ·have HX:Hid ((L.map Prod.fst,t',a',k',0)=RES):=aa (by
    have:=HF.o;rwa[ae (by rw[h3];decide),if_pos h3]at this)
   subst h3;go_wp2;go_ret2;exact xl S1.o HX.o
  by_cases h0:E=0
  rotate_left
  ·have e3:(E==3)=false:=ar.2 h3;have e0:(E==0)=false:=ar.2 h0;have f2:=BK2.o.free 2;have f5:=BK2.o.free 5
   have x2:=BK2.o.cell 2;have x5:=BK2.o.cell 5
   have HX:Hid ((L.map Prod.fst,⟨#[]⟩,a',k',E)=RES):=aa (by
    have:=HF.o;rwa[ae h0,ae h3]at this)
   clear h3 h0;go_wp2;go_ret2;exact CK S1.o HX.o
  subst h0;have HF2:Hid (smF v most f (t'.extract q t'.size) (a'+q) (k'+1) ((L++[(P,hh)]).map Prod.fst)=RES):=aa (by
   have:=HF.o;rw[if_pos rfl]at this;rw[Ii];exact this)
  obtain⟨q1,q2⟩:=HST.o rfl;have HQ:Hid (2<=q/\q<=n1):=aa (by have:=HN1.o;omega);have hb3:=(aq (w2.alloc (.cells (pkC P hh) PkT)).heap.size (w2.alloc (.cells (pkC P hh) PkT))).alloc (ac _) (.cells (pkC P hh) PkT);have S3:=aa (S1.o.below hb3);have BK3:=aa (BK2.o.below hb3 BK2.o.lt);have KP3:=aa (KP2.o.below hb3);have P3:=aa (P2.o.next hb3);have R3:=aa (Fs (w2.alloc (.cells (pkC P hh) PkT)) P hh (g:=w2.heap.size+1) (by simp));have HNB:Hid (m+1<=100000000000):=aa (by have:=HZS.o;have:=HQ.o;have:=HN1.o;omega);clear h3 HF HST q1 q2 hb3 S1 BK2 KP2 P2
  go_upto_region 14 with (at_builtin;refine oE rfl (.tmp 51) (.tmp 53) rfl (w0:=w) (A:=A) (n:=m) (c:=cm) (L:=L) rfl S3.o.row.row S3.o.size _ [(P,hh)] 1 1 _ rfl rfl (by decide) R3.o HNB.o ?_;intro g4 c4 w4 hrow hgr hat hlt4)
  have B4:=aa (S3.o.row.row.bk hgr BK3.o (by decide));have K4:=aa (KP3.o.row S3.o.row.row hgr);have I4:=aa (S3.o.row.more hrow hgr hat (fun x hx=>by rw[gA.1 hx];exact P3.o) (fun x hx g o e=>by rw[gA.1 hx];exact F2.o.apart (S0.o.row.row.block e).2));have A4:Hid (∀x∈L++[(P,hh)],∀i,i<w.heap.size->gG i x):=aa (fun x hx i hi=>(cj.1 hx).elim (fun h=>S0.o.fresh x h i hi) (fun h=>by rw[gA.1 h];exact F2.o.apart (ch hi S0.o.size)));have L4:=aa (S3.o.mods.app hgr (fun q hq=>.inr (S3.o.row.row.own hq).1));have DC:=aa (wn v most g K1 n1 c1 a' k' q 0 w4 B4.o HQ.o.2 KP1.o.cap (by have:=HZS.o;omega) (by have:=HZS.o;omega) (by have:=HZS.o;have:=HN1.o;omega));clear hrow hgr hat hlt4 S3 BK3 KP3 P3 R3
  go_wp2_with fail
  refine DC.o.mono ?_;rintro e w5 ⟨rfl,hb5,hm5⟩;have S5:Hid (SF w0 w g O v most (t'.extract q t'.size) (a'+q) (k'+1) (some ⟨g4,0,none⟩) (m+1) c4 (L++[(P,hh)]) w5):=aa ⟨⟨xt K1 n1 q 1,n1- q,n1- q,hb5,by
   have:=(K4.o.apart B4.o (by decide) hm5).drop HQ.o.2;rw[EK];exact this⟩,I4.o.stream B4.o hm5 (fun y hy=>A4.o y hy g S0.o.lt),A4.o,S0.o.lt,S0.o.base,L4.o.app hm5 (fun i e=>by cases e;exact .inl (.inl rfl))⟩
  clear hb5 hm5 DC;go_wp2
  go_roundg f
  case measure=>omega
  case rel=>
   have h9:=HQ.o;have h8:=HN1.o;have h7:=HZS.o;have h6:=HLT.o
   have hx:(t'.extract q t'.size).size=t'.size- q:=by rw[aj,Nat.min_self]
   exact⟨some ⟨g4,0,none⟩,m+1,c4,L++[(P,hh)],t'.extract q t'.size,a'+q,k'+1,rfl,S5.o,by omega,HF2.o,by omega,by omega,by omega,by omega⟩
end
section
attribute [local go_sem ↓] bD bF bH bI bu
attribute [local go_sem] bc aD bh bg bK bJ bd aY be aO ax cI dC dB dt dj di dA dr dp dn bW co bO bZ bX cz cy cw cu ct cC cn bS bP bR
theorem Mods.split{g:Nat}{o:Option Nat}{w w':World}(h:Mods (FS g o) w w')(hg:g<w.heap.size):∃z,w.grownBy z (some g)/\z.grownBy w' o:=by
 have hg':g<w'.heap.size:=ch hg h.size;refine⟨{w with heap:=w.heap.set g (w'.heap[g]) hg},⟨rfl,rfl,rfl,?_,fun i hi e=>?_⟩,⟨h.os,h.tape,h.output,?_,fun i hi e=>?_⟩⟩
 ·show w.heap.size<=(w.heap.set g (w'.heap[g]) hg).size;rw[Array.size_set];exact ac _
 ·show(w.heap.set g (w'.heap[g]) hg)[i]? =w.heap[i]?;rw[Array.getElem?_set_ne hg (fun x=>e (by rw[x]))]
 ·show(w.heap.set g (w'.heap[g]) hg).size<=w'.heap.size;rw[Array.size_set];exact h.size
 ·show w'.heap[i]? =(w.heap.set g (w'.heap[g]) hg)[i]?;have hi':i<w.heap.size:=by
   have:i<(w.heap.set g (w'.heap[g]) hg).size:=hi;rwa[Array.size_set]at this
  by_cases x:g=i
  ·subst x;rw[Array.getElem?_set_self hg,eL hg']
  ·rw[Array.getElem?_set_ne hg x];exact h.block i hi' (fun y=>y.elim (fun a=>x a.symm) (fun b=>e b.symm))
theorem Kp.not{w0 w:World}{K:Option Addr}{n c:Nat}{t:List UInt8}(h:Kp w0 w K n c t){g:Nat}{ty:TypeId}{cs:Array Value}(hb:Bk w g ty cs)(hne:ty≠U8):(Value.slice K n c).ownBlock≠some g:=by
 intro e;rcases h.lies with ⟨rfl,-⟩ | ⟨g',o,M,rfl,-,h3,-⟩
 ·cases e
 ·simp only[Value.ownBlock,aX]at e;subst e;unfold Bk at hb h3;rw[hb]at h3;simp only[aX,fc]at h3;exact hne h3.2.1
theorem RowI.kept{wf w0 w y:World}{A:Option Addr}{n c:Nat}{L:List (Pk×Hs)}(h:RowI wf w A n c L){K:Option Addr}{m d:Nat}{t:List UInt8}(hk:Kp w0 w K m d t)(hm:w.grownBy y (Value.slice K m d).ownBlock):RowI wf y A n c L:=by
 refine⟨h.row.other hm fun q hq e=>?_,fun x hx=>hk.keep hm (h.ins x hx),h.apart⟩;rcases h.row.lies with ⟨h1,-⟩ | ⟨g2,M2,h1,-,h4,-⟩
 ·rw[h1]at hq;cases hq
 ·rw[h1]at hq;cases hq
  exact hk.not h4 (by decide) e
theorem RowI.fed{wf w0 w y:World}{A:Option Addr}{n c:Nat}{L:List (Pk×Hs)}(h:RowI wf w A n c L){g:Nat}{v most:Int}{K:Option Addr}{m d a k:Nat}{e:Int}{t:List UInt8}(hb:Bk w g SmT (smC v most K m d a k e))(hk:Kp w0 w K m d t)(hm:Mods (FS g (Value.slice K m d).ownBlock) w y)(ha:∀x∈L,gG g x):RowI wf y A n c L:=by
 obtain⟨z,h1,h2⟩:=hm.split hb.lt;exact(h.stream hb h1 ha).kept (hk.apart hb (by decide) h1) h2
theorem ex{B:Nat}{w0 wk w y:World}(h0:Below B w0 w){g:Nat}{K:Option Addr}{m d:Nat}{t:List UInt8}(hg:B<=g)(hB:B<=w.heap.size)(hk:Kp wk w K m d t)(hw:B<=wk.heap.size)(hm:Mods (FS g (Value.slice K m d).ownBlock) w y):Below B w0 y:=
 hm.below h0 hB fun i hi=>hi.elim (fun e=>by omega) (fun e=>aC hw (hk.own e).1)
theorem RowK.first{w0 w:World}{A:Option Addr}{n c:Nat}{p:Pk}{h:Hs}{L:List (Pk×Hs)}(hr:RowK w0 w A n c ((p,h) :: L)):∃g M,A=some ⟨g,0,none⟩/\Bk w g PkT (pks ((p,h) :: M)).toArray:=by
 rcases hr.lies with ⟨-,h1,-⟩ | ⟨g,M,h1,-,h3,h4,h5,-,h7⟩
 ·have:=hr.len;simp at this;omega
 ·match M,n,h3,h7 with
  | [],_,_,h7=>simp at h7
  | _ :: _,0,_,h7=>simp at h7
  | x :: M,n+1,h3,h7=>
    rw[GG,gY]at h7;rw[h7.1]at h3;exact⟨g,M,h1,h3⟩
theorem Bk.first{w:World}{g:Nat}{p:Pk}{h:Hs}{M:List (Pk×Hs)}(hb:Bk w g PkT (pks ((p,h) :: M)).toArray){r:Nat}(hr:r<25):w.cell? ⟨g,r,none⟩=(pkC p h)[r]? :=by
 rw[hb.cell,ay];have:=mG ((p,h) :: M) 0 r (Nat.succ_pos _) hr;rwa[jU,bV]at this
theorem Bk.fed{w0 w y:World}{q:Nat}{ty:TypeId}{cs:Array Value}(h:Bk w q ty cs)(h1:ty≠U8){g:Nat}{K:Option Addr}{m d:Nat}{t:List UInt8}(hq:q≠g)(hk:Kp w0 w K m d t)(hm:Mods (FS g (Value.slice K m d).ownBlock) w y):Bk y q ty cs:=
 h.mods hm fun x=>x.elim hq (hk.not h h1)
theorem Bk.ne{w:World}{q g:Nat}{ty tz:TypeId}{cs ds:Array Value}(h:Bk w q ty cs)(h':Bk w g tz ds)(hne:ty≠tz):q≠g:=by
 rintro rfl;unfold Bk at h h';rw[h]at h';simp only[aX,fc]at h';exact hne h'.2.1
theorem pO(v most:Int)(g:Nat)(K:Option Addr)(n c a k:Nat)(e:Int)(he:e≠0)(s:ByteArray)(w:World)(hb:Bk w g SmT (smC v most K n c a k e)):
  Calls prog 35 #[.pointer (some ⟨g,0,none⟩),.string s] w fun e' w'=>e'= .returned (.tuple #[.slice none 0 0,.int .i64 e])/\Below w.heap.size w w':=by
 have HB:=aa (aq w.heap.size w);have c5:w.cell? ⟨g,5,none⟩=some (.int .i64 e):=hb.cell 5;have e0:(e !=0)=true:=aA.2 he;clear hb he;go_enter func35,ntmps35;go_wp2
 go_quiet (fail)
 go_wp2;go_ret2;exact⟨rfl,aV HB.o _⟩
theorem uo{fn:Func}{p:Tmp}(hr:fn.results= #[.cell p 54])(tmps:Array Value){w:World}{g:Nat}{a b:Value}(hp:tmps.getD p undef= .pointer (some ⟨g,0,none⟩))(hb:Bk w g 54 #[a,b]):(results fn tmps).run prog w= .ok (.agg #[a,b]) w:=by
 obtain⟨⟨c0,c1⟩,-⟩:=hb.two;rw[Jf]at hp;simp only[results,hr];simp[hp,go_sem,c0,c1]
theorem iz(w:World):Calls prog 92 #[] w fun e w'=>e= .returned (zW 64 0)/\Below w.heap.size w w':=by
 have HK:=aa (Bk.fresh w 54 #[.int .i64 64,.int .i64 0]);have HB:=aa ((aq w.heap.size w).alloc (ac _) (.cells #[.int .i64 64,.int .i64 0] 54));unfold zW;go_enter func92,ntmps92;go_wp2;refine av (uo rfl _ rfl HK.o) rfl ?_;exact⟨rfl,HB.o⟩
theorem FW:smG 4 64 (⟨#[]⟩++⟨#[192]⟩) 0 0 []=([],⟨#[192]⟩,0,0,0):=by decide+kernel
theorem FV:smG 4 64 (⟨#[192]⟩++⟨#[0,208]⟩) 0 0 []=([{pk0 with kind:=12}],⟨#[208]⟩,2,1,0):=by decide+kernel
theorem FU:smG 4 64 (⟨#[208]⟩++⟨#[0]⟩) 2 1 []=([{pk0 with kind:=13}],⟨#[]⟩,4,2,0):=by decide+kernel
theorem FO.len{w0 w w':World}{g:Nat}{o:Option Nat}{v most:Int}{r:List Pk×ByteArray×Nat×Nat×Int}{A:Option Addr}{m cm:Nat}{L:List (Pk×Hs)}{K:Option Addr}{n c:Nat}(h:FO w0 w g o v most r w' A m cm L K n c):m=r.1.length:=by
 rw[<-h.map,eD,h.row.row.len]
theorem tg{L:List (Pk×Hs)}{p:Pk}(h:L.map Prod.fst=[p]):∃k,L=[(p,k)]:=by
 match L,h with
 | [],h=>cases h
 | [(q,k)],h=>
   simp only[fI,gC,gY,Hj]at h;exact⟨k,by rw[h]⟩
 | _ :: _ :: _,h=>simp at h
theorem lA(w:World):Calls prog 32 #[] w fun e w'=>e= .returned (.bool true)/\Below w.heap.size w w':=by
 have HC1:=aa (fun(g:Nat) W hb=>d9 4 64 g none 0 0 0 0 ⟨#[]⟩ ⟨#[192]⟩ w W hb (Kp.none w W));have HC2:=aa (fun(g:Nat) (K:Option Addr) (n c:Nat) W hb hk=>d9 4 64 g K n c 0 0 ⟨#[192]⟩ ⟨#[0,208]⟩ w W hb hk);have HC3:=aa (fun(g:Nat) (K:Option Addr) (n c:Nat) W hb hk=>d9 4 64 g K n c 2 1 ⟨#[208]⟩ ⟨#[0]⟩ w W hb hk);rw[FW]at HC1;rw[FV]at HC2;rw[FU]at HC3;go_enter func32,ntmps32
 go_wp2_with fail
 refine(iz _).mono ?_;rintro e w0 ⟨rfl,hb0⟩;have HB0:=aa hb0;clear hb0
 go_wp2_with fail
 refine(fm 4 64 0 _).mono ?_;rintro e w1 ⟨hb,h⟩;rw[if_pos (by decide)]at h;obtain⟨g,rfl,hg,bk⟩:=h;have HB1:=aa (HB0.o.trans (hb.mono HB0.o.size));have HG:=aa (aC HB0.o.size hg);have BK1:=aa bk
 clear hb hg bk
 go_wp2_with fail
 refine(HC1.o g _ BK1.o HB1.o.size (by decide) (by decide)).mono ?_;rintro e w2 ⟨A1,m1,cm1,L1,K1,n1,c1,rfl,F⟩;have F1:=aa F;have M1:=F.len
 have HB2:=aa (ex HB1.o HG.o HB1.o.size (Kp.none w w1) (ac _) F.mods);have N1:Hid (n1=1):=aa F.kp.len.symm;clear F HC1;dsimp only[eC]at M1⊢;subst M1
 go_wp2_with fail
 refine(HC2.o g K1 n1 c1 _ F1.o.bk F1.o.kp HB2.o.size (by rw[N1.o];decide) (by decide)).mono ?_;rintro e w3 ⟨A2,m2,cm2,L2,K2,n2,c2,rfl,F⟩;have F2:=aa F;have M2:=F.len
 have HB3:=aa (ex HB2.o HG.o HB2.o.size F1.o.kp (ac _) F.mods);have N2:Hid (n2=1):=aa F.kp.len.symm;clear F HC2;dsimp only[bM,eC]at M2⊢;subst M2
 go_wp2_with fail
 refine(HC3.o g K2 n2 c2 _ F2.o.bk F2.o.kp HB3.o.size (by rw[N2.o];decide) (by decide)).mono ?_;rintro e w4 ⟨A3,m3,cm3,L3,K3,n3,c3,rfl,F⟩;have F3:=aa F;have M3:=F.len
 have HB4:=aa (ex HB3.o HG.o HB3.o.size F2.o.kp (ac _) F.mods);have R2:=F2.o.row.fed F2.o.bk F2.o.kp F.mods (fun x hx=>F2.o.fresh x hx g F1.o.bk.lt);obtain⟨k2,e2⟩:=tg F2.o.map;obtain⟨k3,e3⟩:=tg F.map;have R3:=F.row;rw[e2]at R2;rw[e3]at R3;obtain⟨g2,Q2,rfl,x2⟩:=R2.row.first;obtain⟨g3,Q3,rfl,x3⟩:=R3.row.first;have y2:w4.cell? ⟨g2,0,none⟩=some (.int .i64 12):=x2.first (r:=0) (by decide);have y3:w4.cell? ⟨g3,0,none⟩=some (.int .i64 13):=x3.first (r:=0) (by decide);clear F HC3 R2 R3 e2 e3 x2 x3;dsimp only[bM,eC]at M3⊢;subst M3;go_wp2;go_ret;exact⟨rfl,HB4.o⟩
end
section
attribute [local go_sem ↓] bD bF bH bI bu
attribute [local go_sem] bc aD bh bg bK bJ bd aY be aO ax cI dC dB dt dj di dA dr dp dn bW co bO bZ bX cz cy cw cu ct cC cn bS bP bR
theorem xX{v most:Int}:∀(N:Nat) (t:ByteArray) (a k:Nat) (l:List Pk),t.size<=N->N<=1000000000000->(∀p∈l,PkOk p)->∀p∈(smG v most t a k l).1,PkOk p
 | N,t,a,k,l,hN,hb,hl=>by
   rw[fK];split
   ·rename_i h0;have h1:=jD h0;have hx:(t.extract (smN v most t).2.1 t.size).size=t.size- (smN v most t).2.1:=by rw[aj];omega
    match N,hN,hb with
    | 0,hN,_=>omega
    | N+1,hN,hb=>
      refine xX N _ _ _ _ (by omega) (by omega) ?_;intro p hp;rcases cj.1 hp with hp| hp
      ·exact hl p hp
      ·rw[gA.1 hp];exact Fn (by omega)
   ·split
    ·exact hl
    ·exact hl
section
variable {w wb:World} {v most md:Int} {ga gb gl:Nat} {R:List Pk×ByteArray×Nat×Nat×Int} {A1:Option Addr} {m1 cm1:Nat} {L1:List (Pk×Hs)} {cv:Value} {C:List ByteArray} {t:ByteArray} {a k:Nat} {e:Int} {x y:World}
end
theorem RowI.wider{w0 w' x:World}{A:Option Addr}{n c:Nat}{L:List (Pk×Hs)}(h:RowI w0 x A n c L)(hb:w'.heap.size<=w0.heap.size):RowI w' x A n c L:=by
 refine⟨⟨h.row.len,?_⟩,h.ins,h.apart⟩;rcases h.row.lies with h1| ⟨g,M,h1,h2,h3⟩
 ·exact .inl h1
 ·exact .inr ⟨g,M,h1,aC hb h2,h3⟩
end
end Go.Proofs.YtbdgkkmbnahgiaaGreatDoor
