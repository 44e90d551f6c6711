/- Parts: PkS, MqL, MsF, MsG, MsJ, MsI, MsK, TlP, TlB, TlS. -/
import Derived.Test.YtemooicddjimbaaGreatDoorTlG0MsB
import Derived.OwnWalk
set_option maxRecDepth 10000
set_option maxHeartbeats 8000000
namespace Go.Proofs.YtemooicddjimbaaGreatDoor
open Go.RowKit Go.Proofs.Tryz
section
attribute [local go_sem ↓] bD bF bH bI bu
attribute [local go_sem] bc aD bh bg bK bJ bd aY be aO ax cI dC dB dt dj di dA dr dp dn bW co YK bZ YM cz cy cw cu YL YP YB bS bP bR
theorem uh(A A':Option Addr)(n m c c':Nat)(L M:List (Pk×Hs))(w:World)(hl:RdK w A n L)(hm:RdK w A' m M)(ol:∀x∈L,gz x.1)(om:∀x∈M,gz x.1)(hn:n<=4611686018427387904)(hn':m<=4611686018427387904):
  Calls prog 11 #[.slice A n c,.slice A' m c'] w fun e w'=>e= .returned (.bool (decide (L.map Prod.fst=M.map Prod.fst)))/\Below w.heap.size w w':=by
 have E:=aa hl.len;have F:=aa hm.len
 by_cases b:n=m
 ·subst b;have Z:=aa hl;have HM:=aa hm;have OL:=aa ol;have OM:=aa om
  clear hl hm ol om;go_enter func11,ntmps11;go_wp2
  go_loopw [5] (fun i wr=>∃k:Nat,k<=n/\i= .int .i64 k/\(∀j,j<k->(L.map Prod.fst)[j]? =(M.map Prod.fst)[j]?)/\Below w.heap.size w wr) (fun i _=>n- (intOf i).toNat)
  case atStart=>exact⟨0,by omega,rfl,fun j s=>by omega,aq _ _⟩
  case round=>
   obtain⟨k,hk,rfl,g,o⟩:=hrel;have G:=aa g;have a:=aa o
   clear g o
   by_cases v:k<n
   ·obtain⟨bA,oA,p,h,rfl,y,Q,X,U⟩:=(Z.o.below a.o).at v;obtain⟨bB,oB,q,O,rfl,z,R,Y,V⟩:=(HM.o.below a.o).at v;have LP:Hid (gz p):=aa (OL.o (p,h) (iL y));have LQ:Hid (gz q):=aa (OM.o (q,O) (iL z));have J:Hid ((L.map Prod.fst)[k]? =some p):=aa (by rw[Zr,y];rfl);have u:Hid ((M.map Prod.fst)[k]? =some q):=aa (by rw[Zr,z];rfl);clear y z Q R;have b1:(0:Int)<=(k:Int):=by omega
    have b2:(k:Int)<(n:Int):=by omega
    have D:=jw (W:=wr) (fun x T=>ws p q h O x (U.next T) (V.next T) LP.o LQ.o);have g1:=fun d r=>X _ (below_regrown wr d r);have g2:=fun d r=>Y _ (below_regrown wr d r);have t:=aa (fun d r=>a.o.trans ((below_regrown wr d r).mono a.o.size));have f:=aa (show decide (p=q)=true↔p=q from cH);clear U V X Y;obtain⟨B,P⟩:∃B,decide (p=q)=B:=⟨_,rfl⟩;rw[P]at D f;clear P
    go_wp2_with fail
    refine wp_region_quiet_below (by as_aux_lemma=>kernel_rfl) (by as_aux_lemma=>kernel_rfl) ?_
    repeat (go_big_quiet_step (first| with_reducible exact D _ _))
    refine kE ?_;intro _ S;obtain⟨⟨N,osq⟩,C⟩:=S;subst C;have K:=aa (t.o N osq);clear D g1 g2 t;generalize Sort.grow (redrawn _ N) osq=wq at*;cases B
    ·have I:Hid (p≠q):=aa (fun e=>by have:=f.o.2 e;cases this);go_wp2;go_ret;refine⟨?_,K.o⟩;have:L.map Prod.fst≠M.map Prod.fst:=by
      intro e;have:=J.o.symm.trans ((congrArg (fun l:List Pk=>l[k]?) e).trans u.o);exact I.o (by simpa using this)
     simp[this]
    ·have H:Hid (p=q):=aa (f.o.1 rfl);go_wp2
     go_roundw
     case rel=>
      refine⟨k+1,by omega,by go_num,fun j s=>?_,K.o⟩;rcases dx.1 s with h| rfl
      ·exact G.o j h
      ·rw[J.o,u.o,H.o]
     case measure=>simp[intOf];omega
   ·go_wp2;go_ret;refine⟨?_,a.o⟩;have:L.map Prod.fst=M.map Prod.fst:=by
     apply dM;intro j
     by_cases s:j<k
     ·exact G.o j s
     ·rw[aG (by rw[eD];have:=E.o;omega),aG (by rw[eD];have:=F.o;omega)]
    simp[this]
 ·have h1:((n:Int) != (m:Int))=true:=by simpa using (by omega:¬(n:Int)=(m:Int))
  have HN:=aa b;clear b hl hm ol om;go_enter func11,ntmps11;go_wp2;go_ret;refine⟨?_,aq _ _⟩;have:L.map Prod.fst≠M.map Prod.fst:=by
   intro e;have:=congrArg List.length e;rw[eD,eD]at this;exact HN.o (by rw[<-E.o,<-F.o];exact this)
  simp[this]
attribute [local go_sem ↓] xS
attribute [local go_sem] um
def Gv(l:List Nat):List Int:=l.map fun(k:Nat)=>(k:Int)
structure LA (v:Int) (w:World) (L:List (Pk×Hs)) (i:Nat) (G:List (Pk×Hs)) (AG:Option Addr) (cG:Nat) (ve:Value) (x:World):Prop where
 row:RowK w x AG G.length cG G
 ends:x.ownsRow w.heap.size 3 1 ve G.length (iv (Gv (Ff v 0 (G.map Prod.fst))))
 good:G.map Prod.fst=Fe v ((L.take i).map Prod.fst)
 mem:∀y∈G,y∈L
 low:Below w.heap.size w x
section
variable {v:Int} {w x y:World} {L G:List (Pk×Hs)} {i:Nat} {AG:Option Addr} {cG:Nat} {ve:Value} {p:Pk} {h:Hs}
theorem LA.start(v:Int)(L:List (Pk×Hs))(hb:Below w.heap.size w x):LA v w L 0 [] none 0 (.slice none 0 0) x:=
 ⟨RowK.start _ _,dD _ _ _ _,rfl,by simp,hb⟩
theorem LA.below(s:LA v w L i G AG cG ve x)(hb:Below x.heap.size x y):LA v w L i G AG cG ve y:=
 ⟨s.row.below hb,dV s.ends hb,s.good,s.mem,Yf s.low hb⟩
theorem LA.le(s:LA v w L i G AG cG ve x)(hi:i<=L.length):G.length<=i:=by
 have a:=congrArg List.length s.good;rw[eD]at a;have b:(Fe v ((L.take i).map Prod.fst)).length<=((L.take i).map Prod.fst).length:=WJ _ _;rw[eD,cY]at b;omega
theorem LA.valid(s:LA v w L i G AG cG ve x):∀p∈G.map Prod.fst,mqE v p=0:=by
 intro p a;rw[s.good]at a;exact aR (WV.1 a).2
theorem LA.ok(s:LA v w L i G AG cG ve x)(hL:∀y∈L,PkOk y.1):∀p∈G.map Prod.fst,PkOk p:=by
 intro p a;obtain⟨y,b,rfl⟩:=jX.1 a;exact hL y (s.mem y b)
end
theorem RdK.take{w:World}{A:Option Addr}{n:Nat}{L:List (Pk×Hs)}(h:RdK w A n L){k:Nat}(hk:k<=n):RdK w A k (L.take k):=
 ⟨by rw[<-ln];exact h.rd.cut_to hk,fun x a=>h.ins x (IU a)⟩
theorem RowK.ne{w0 w:World}{A:Option Addr}{n c:Nat}{L:List (Pk×Hs)}(h:RowK w0 w A n c L){base m:Nat}{v:Value}{xs:List Value}(ho:w.ownsRow base 3 1 v m xs):v.ownBlock=none\/v.ownBlock≠(Value.slice A n c).ownBlock:=by
 rcases h.lies with ⟨rfl,-⟩ | ⟨g,M,rfl,-,a,-⟩
 ·by_cases e:v.ownBlock=none
  ·exact .inl e
  ·exact .inr e
 ·exact .inr (nS ho a (by decide))
theorem RowK.other{w0 w y:World}{A:Option Addr}{n c:Nat}{L:List (Pk×Hs)}(h:RowK w0 w A n c L){row:Option Nat}(hm:w.grownBy y row)(hne:∀g,A=some ⟨g,0,none⟩->row≠some g):RowK w0 y A n c L:=by
 refine⟨h.len,?_⟩;rcases h.lies with a| ⟨g,M,a,d,b,f⟩
 ·exact .inl a
 ·exact .inr ⟨g,M,a,d,(hm.block g b.lt (fun e=>hne g a e.symm)).trans b,f⟩
end
section
attribute [local go_sem ↓] bD bF bH bI bu
attribute [local go_sem] bc aD bh bg bK bJ bd aY be aO ax cI dC dB dt dj di dA dr dp dn bW co YK bZ YM cz cy cw cu YL YP YB bS bP bR
attribute [local go_sem ↓] xS
attribute [local go_sem] um
theorem DD{w:World}{o:Oper}{a:Act}{J:Act->World->Prop}{Q:Exit->Act->World->Prop}(x y:Operand)
  (ho:o.op= .call {callee:=.builtin .append,args:=#[x,y],argTypes:=#[77,9]})
  {w0:World}{K:Option Addr}{n c:Nat}{t:List UInt8}(s:ByteArray)(hx:a.eval x= .slice K n c)(hy:a.eval y= .string s)(hr:Kp w0 w K n c t)(h0:w0.heap.size<=w.heap.size)(hb:n+s.size<=1000000000000)
  (h:∀K' c' w',Kp w0 w' K' (n+s.size) c' (t++ls s)->w.grownBy w' (Value.slice K n c).ownBlock->J (a.put o.dst (.slice K' (n+s.size) c')) w'):o.wp prog a w J Q:=by
 obtain⟨K',c',w',b,d,e⟩:=Bp hr h0 o.type s hb;unfold Oper.wp execOp;simp only[ho,resolve,invoke,builtin,Sem.run_bind,Sem.run_pure,ik,kD,fI,gC,hx,hy,b];exact h K' c' w' d e
theorem tQ{w:World}{ops:Array Oper}{rest:List Oper}{o:Oper}{a:Act}{Q:Exit->Act->World->Prop}(hgd:o.guard=none)(x y:Operand)
  (ho:o.op= .call {callee:=.builtin .append,args:=#[x,y],argTypes:=#[77,9]})
  {w0:World}{K:Option Addr}{n c:Nat}{t:List UInt8}(s:ByteArray)(hx:a.eval x= .slice K n c)(hy:a.eval y= .string s)(hr:Kp w0 w K n c t)(h0:w0.heap.size<=w.heap.size)(hb:n+s.size<=1000000000000)
  (h:∀K' c' w',Kp w0 w' K' (n+s.size) c' (t++ls s)->w.grownBy w' (Value.slice K n c).ownBlock->wpList prog ops Q rest (a.put o.dst (.slice K' (n+s.size) c')) w'):wpList prog ops Q (o :: rest) a w:=
 Y6 hgd fun _ e=>DD x y ho s hx hy hr h0 hb fun K' c' w' b d=>e _ _ (h K' c' w' b d)
theorem t8(v most:Int)(K:Option Addr)(n c a k:Nat)(e:Int):∀(i:Nat) (m:Int),(smC v most K n c a k e)[i]? ≠some (Value.int IntKind.u32 m):=by
 intro i m;rcases i with _| _| _| _| _| _| i<;>simp[smC]
theorem Bb(v most:Int)(K:Option Addr)(n c a k:Nat)(e:Int)(o:Nat)(x:ByteArray)(b:Int)(_c d:Bool)(h0:(smC v most K n c a k e)[o]? =some (.string x))(_h1:(smC v most K n c a k e)[o+1]? =some (.int .i64 b))(_h3:(smC v most K n c a k e)[o+3]? =some (.bool d)):False:=by
 rcases o with _| _| _| _| _| _| o<;>simp[smC]at h0
theorem PkIn.stream{x y:World}{g:Nat}{p:Pk}{h:Hs}{v most:Int}{K:Option Addr}{n c a k:Nat}{e:Int}(hi:PkIn x x.heap.size p h)(hbk:Bk x g SmT (smC v most K n c a k e))(hm:x.grownBy y (some g))(hf:gG g (p,h)):PkIn y y.heap.size p h:=by
 refine⟨(hi.wp.other hbk (t8 _ _ _ _ _ _ _ _) hm (ac _)).wider hm.size,?_,(hi.filters.otherN hbk (Bb _ _ _ _ _ _ _ _) hm (ac _)).wider hm.size,(hi.props.other hbk (t8 _ _ _ _ _ _ _ _) hm (ac _)).wider hm.size,hi.caps⟩;refine(hi.codes.grown hm (ac _) ?_).wider hm.size;intro b o e d;rcases hf with h| h
 ·dsimp only at h;rw[h]at d;exact absurd rfl d
 ·exact h b o e
def FS(g:Nat)(o:Option Nat)(i:Nat):Prop:=i=g\/o=some i
theorem Mods.app{S:Nat->Prop}{w0 w w':World}{o:Option Nat}(h:Mods S w0 w)(hg:w.grownBy w' o)(ho:∀i,o=some i->S i\/w0.heap.size<=i):Mods S w0 w':=
 ⟨hg.os.trans h.os,hg.tape.trans h.tape,hg.output.trans h.output,aC h.size hg.size,fun i b c=>(hg.block i (YU b h.size) (fun e=>by
  rcases ho i e.symm with a| a
  ·exact c a
  ·omega)).trans (h.block i b c)⟩
structure SF (w0 wf:World) (g:Nat) (o:Option Nat) (v most:Int) (t:ByteArray) (a k:Nat) (A:Option Addr) (m cm:Nat) (L:List (Pk×Hs)) (x:World):Prop where
 st:∃K n c,Bk x g SmT (smC v most K n c a k 0)/\Kp w0 x K n c (ls t)
 row:RowI wf x A m cm L
 fresh:∀y∈L,∀i,i<wf.heap.size->gG i y
 lt:g<wf.heap.size
 base:w0.heap.size<=wf.heap.size
 mods:Mods (FS g o) wf x
theorem SF.size{w0 wf:World}{g:Nat}{o:Option Nat}{v most:Int}{t:ByteArray}{a k:Nat}{A:Option Addr}{m cm:Nat}{L:List (Pk×Hs)}{x:World}(s:SF w0 wf g o v most t a k A m cm L x):wf.heap.size<=x.heap.size:=s.mods.size
theorem SF.below{w0 wf:World}{g:Nat}{o:Option Nat}{v most:Int}{t:ByteArray}{a k:Nat}{A:Option Addr}{m cm:Nat}{L:List (Pk×Hs)}{x y:World}(s:SF w0 wf g o v most t a k A m cm L x)(hb:Below x.heap.size x y):SF w0 wf g o v most t a k A m cm L y:=by
 obtain⟨K,n,c,b,d⟩:=s.st;exact⟨⟨K,n,c,Yh b hb,d.below hb⟩,s.row.below hb,s.fresh,s.lt,s.base,s.mods.trans (Mods.of_below hb)⟩
theorem RowK.bk{w0 w y:World}{A:Option Addr}{n c:Nat}{L:List (Pk×Hs)}(h:RowK w0 w A n c L)(hm:w.grownBy y (Value.slice A n c).ownBlock){g:Nat}{ty:TypeId}{cs:Array Value}(hb:Bk w g ty cs)(hne:ty≠PkT):Bk y g ty cs:=by
 refine(hm.block g hb.lt fun e=>?_).trans hb;rcases h.lies with ⟨rfl,-⟩ | ⟨b,M,rfl,-,a,-⟩
 ·cases e
 ·simp only[Value.ownBlock,aX]at e;subst e;unfold Bk at hb a;rw[hb]at a;simp only[aX,fc]at a;exact hne a.2.1
theorem Kp.row{w0 wf w y:World}{K:Option Addr}{m d:Nat}{t:List UInt8}(h:Kp w0 w K m d t){A:Option Addr}{n c:Nat}{L:List (Pk×Hs)}(hr:RowK wf w A n c L)(hm:w.grownBy y (Value.slice A n c).ownBlock):Kp w0 y K m d t:=by
 refine⟨h.len,h.cap,?_⟩;rcases h.lies with a| ⟨g,o,M,a,b,e,f⟩
 ·exact .inl a
 ·exact .inr ⟨g,o,M,a,b,hr.bk hm e (by decide),f⟩
theorem RowI.stream{wf w y:World}{A:Option Addr}{n c:Nat}{L:List (Pk×Hs)}(h:RowI wf w A n c L){g:Nat}{v most:Int}{K:Option Addr}{m d a k:Nat}{e:Int}(hb:Bk w g SmT (smC v most K m d a k e))(hm:w.grownBy y (some g))(ha:∀x∈L,gG g x):RowI wf y A n c L:=by
 refine⟨h.row.other hm fun q b e=>?_,fun x j=>(h.ins x j).stream hb hm (ha x j),h.apart⟩;cases e;rcases h.row.lies with ⟨f,-⟩ | ⟨l,M,f,-,i,-⟩
 ·rw[f]at b;cases b
 ·rw[f]at b;cases b;unfold Bk at hb i;rw[i]at hb;simp only[aX,fc]at hb;exact absurd hb.2.1 (by decide)
structure FO (w0 w:World) (g:Nat) (o:Option Nat) (v most:Int) (r:List Pk×ByteArray×Nat×Nat×Int) (w':World) (A:Option Addr) (m cm:Nat) (L:List (Pk×Hs)) (K:Option Addr) (n c:Nat):Prop where
 row:RowI w w' A m cm L
 map:L.map Prod.fst=r.1
 bk:Bk w' g SmT (smC v most K n c r.2.2.1 r.2.2.2.1 r.2.2.2.2)
 kp:Kp w0 w' K n c (ls r.2.1)
 mods:Mods (FS g o) w w'
 fresh:∀y∈L,∀i,i<w.heap.size->gG i y
def tN(w0 w:World)(g:Nat)(o:Option Nat)(v most:Int)(r:List Pk×ByteArray×Nat×Nat×Int)(e:Ending)(w':World):Prop:=∃A m cm L K n c,e= .returned (.tuple #[.slice A m cm,.int .i64 r.2.2.2.2])/\FO w0 w g o v most r w' A m cm L K n c
theorem xl{w0 w x:World}{g:Nat}{o:Option Nat}{v most:Int}{t:ByteArray}{a k:Nat}{A:Option Addr}{m cm:Nat}{L:List (Pk×Hs)}{r:List Pk×ByteArray×Nat×Nat×Int}(s:SF w0 w g o v most t a k A m cm L x)(hr:(L.map Prod.fst,t,a,k,0)=r):tN w0 w g o v most r (.returned (.tuple #[.slice A m cm,.int .i64 0])) x:=by
 subst hr;obtain⟨K,n,c,b,d⟩:=s.st;exact⟨A,m,cm,L,K,n,c,rfl,s.row,rfl,b,d,s.mods,s.fresh⟩
theorem CK{w0 w x:World}{g:Nat}{o:Option Nat}{v most:Int}{t:ByteArray}{a k:Nat}{A:Option Addr}{m cm:Nat}{L:List (Pk×Hs)}{E:Int}{r:List Pk×ByteArray×Nat×Nat×Int}(s:SF w0 w g o v most t a k A m cm L x)(hr:(L.map Prod.fst,⟨#[]⟩,a,k,E)=r):
  tN w0 w g o v most r (.returned (.tuple #[.slice A m cm,.int .i64 E])) ((x.setCell ⟨g,2,none⟩ (.slice none 0 0)).setCell ⟨g,5,none⟩ (.int .i64 E)):=by
 subst hr;obtain⟨K,n,c,b,h⟩:=s.st;have d:=(YR x g 2 (.slice none 0 0)).trans (YR (x.setCell ⟨g,2,none⟩ (.slice none 0 0)) g 5 (.int .i64 E));exact⟨A,m,cm,L,none,0,0,rfl,s.row.stream b d (fun y f=>s.fresh y f g s.lt),rfl,(b.put 2 (.slice none 0 0)).put 5 (.int .i64 E),Kp.none _ _,s.mods.app d (fun i e=>by cases e;exact .inl (.inl rfl)),s.fresh⟩
theorem d9(v most:Int)(g:Nat)(K:Option Addr)(n c a k:Nat)(t s:ByteArray)(w0 w:World)(hb:Bk w g SmT (smC v most K n c a k 0))(hk:Kp w0 w K n c (ls t))(h0:w0.heap.size<=w.heap.size)(hn:n+s.size<=1000000000)(hak:a<=10000000000/\k<=10000000000):
  Calls prog 10 #[.pointer (some ⟨g,0,none⟩),.string s] w (tN w0 w g (Value.slice K n c).ownBlock v most (smG v most (t++s) a k [])):=by
 have W:=aa hb;have Y:=aa hk;have H0:=aa h0;have HN:=aa hn
 have c5:w.cell? ⟨g,5,none⟩=some (.int .i64 0):=W.o.cell 5;have c2:w.cell? ⟨g,2,none⟩=some (.slice K n c):=W.o.cell 2;have an:=aa hak;have S:Hid ((t++s).size<=1000000000):=aa (by rw[cK,<-aN t,hk.len];exact hn);obtain⟨z,J⟩:∃R,smF v most ((t++s).size+1) (t++s) a k []=R:=⟨_,rfl⟩;rw[show smG v most (t++s) a k []=z from J];obtain⟨O,hO⟩:∃O,(Value.slice K n c).ownBlock=O:=⟨_,rfl⟩;rw[hO];have HO:=aa hO;have aH:=aa J;clear hb hk h0 hn hak J hO;go_enter func10,ntmps10
 go_upto_region 5 with fail
 go_upto_region 6 with (at_builtin;refine tQ rfl (.tmp 26) (.tmp 27) rfl (w0:=w0) (K:=K) (n:=n) (c:=c) (t:=ls t) s rfl rfl Y.o H0.o (by have:=HN.o;omega) ?_;intro F H w1 ay d;have C:=Y.o.bk d W.o (by decide);have f2:=C.free 2;have x2:=C.cell 2)
 have aw:=C.put 2 (.slice F (n+s.size) H);have BK:=aa (show Bk (w1.setCell ⟨g,2,none⟩ (.slice F (n+s.size) H)) g SmT (smC v most F (n+s.size) H a k 0)from aw);have KP:=aa (ay.apart C (by decide) (YR w1 g 2 (.slice F (n+s.size) H)));have GL:=aa W.o.lt;have LW:Hid (Mods (FS g O) w (w1.setCell ⟨g,2,none⟩ (.slice F (n+s.size) H))):=aa (((Mods.refl w).app d (fun i e=>.inl (.inr (HO.o▸e)))).app (YR w1 g 2 _) (fun i e=>by cases e;exact .inl (.inl rfl)));clear aw C f2 x2 ay d c5 c2 W Y;generalize w1.setCell ⟨g,2,none⟩ (.slice F (n+s.size) H)=W1 at*;have aV:Hid (ls t++ls s=ls (t++s)):=aa (fe t s).symm;rw[aV.o]at KP;have aZ:Hid (SF w0 w g O v most (t++s) a k none 0 0 [] W1):=aa ⟨⟨F,n+s.size,H,BK.o,KP.o⟩,RowI.start w W1,by simp,GL.o,H0.o,LW.o⟩;go_wp2
 go_loopg [6] ((t++s).size+1) (fun f ov wr=>∃(A:Option Addr) (m cm:Nat) (L:List (Pk×Hs)) (b:ByteArray) (p r:Nat),ov= .slice A m cm/\SF w0 w g O v most b p r A m cm L wr/\b.size<f/\smF v most f b p r (L.map Prod.fst)=z/\b.size<=1000000000/\p+b.size<=100000000000/\r+b.size<=100000000000/\m+b.size<=10000000000)
 case atStart=>exact⟨none,0,0,[],t++s,a,k,rfl,aZ.o,ed _,aH.o,S.o,by have:=S.o;have:=an.o;omega,by have:=S.o;have:=an.o;omega,by have:=S.o;omega⟩
 case round=>
  obtain⟨A,m,cm,L,b,p,r,rfl,hS,az,hF,aA,aB,aC,aD⟩:=hrel;obtain⟨f,rfl⟩:∃f',gk=f'+1:=⟨gk- 1,by omega⟩;rw[mU]at hF;have G:=aa hS;have aT:=aa az;have U:=aa hF
  have u:=aa (And.intro aA (And.intro aB (And.intro aC aD)));obtain⟨K1,M,c1,hb,hk⟩:=hS.st;have ak:=aa hb;have ao:=aa hk
  have N:Hid (b.size=M):=aa (by rw[<-aN];exact hk.len);have CL:=aa (wj v most g K1 M c1 p r 0 b w0 wr hb hk (by omega));have Q:=aa (jD (v:=v) (most:=most) (t:=b));obtain⟨⟨P,q,E⟩,hR⟩:∃R,smN v most b=R:=⟨_,rfl⟩;rw[hR]at U Q CL;dsimp only at U Q;clear hS az hF aA aB aC aD hb hk hR
  go_wp2_with fail
  refine CL.o.mono ?_;rintro e w2 ⟨j,rfl,hi,Z,hf⟩;have X:=aa (Z.alloc Z.size (.cells (pkC P j) PkT));have S1:=aa (G.o.below X.o);have l:=aa (Yh ak.o X.o);have ap:=aa (ao.o.below X.o);have P2:=aa (hi.next ((aq _ _).alloc (ac _) (.cells (pkC P j) PkT)));have F2:=aa hf;clear hi Z hf CL;dsimp only at P2 F2⊢
  by_cases I:E=3
  ·have HX:Hid ((L.map Prod.fst,b,p,r,0)=z):=aa (by
    have:=U.o;rwa[Fl (by rw[I];decide),if_pos I]at this)
   subst I;go_wp2;go_ret2;exact xl S1.o HX.o
  by_cases h0:E=0
  rotate_left
  ·have e3:(E==3)=false:=ar.2 I;have e0:(E==0)=false:=ar.2 h0;have f2:=l.o.free 2;have f5:=l.o.free 5
   have x2:=l.o.cell 2;have x5:=l.o.cell 5
   have HX:Hid ((L.map Prod.fst,⟨#[]⟩,p,r,E)=z):=aa (by
    have:=U.o;rwa[Fl h0,Fl I]at this)
   clear I h0;go_wp2;go_ret2;exact CK S1.o HX.o
  subst h0;have aS:Hid (smF v most f (b.extract q b.size) (p+q) (r+1) ((L++[(P,j)]).map Prod.fst)=z):=aa (by
   have:=U.o;rw[if_pos rfl]at this;rw[Ii];exact this)
  obtain⟨q1,q2⟩:=Q.o rfl;have HQ:Hid (2<=q/\q<=M):=aa (by have:=N.o;omega);have D:=(aq (w2.alloc (.cells (pkC P j) PkT)).heap.size (w2.alloc (.cells (pkC P j) PkT))).alloc (ac _) (.cells (pkC P j) PkT);have B:=aa (S1.o.below D);have am:=aa (Yh l.o D);have au:=aa (ap.o.below D);have P3:=aa (P2.o.next D);have R3:=aa (Fs (w2.alloc (.cells (pkC P j) PkT)) P j (g:=w2.heap.size+1) (by simp));have aU:Hid (m+1<=100000000000):=aa (by have:=u.o;have:=HQ.o;have:=N.o;omega);clear I U Q q1 q2 D S1 l ap P2
  go_upto_region 14 with (at_builtin;refine oE rfl (.tmp 51) (.tmp 53) rfl (w0:=w) (A:=A) (n:=m) (c:=cm) (L:=L) rfl B.o.row.row B.o.size _ [(P,j)] 1 1 _ rfl rfl (by decide) R3.o aU.o ?_;intro g4 c4 w4 ad d av aO)
  have B4:=aa (B.o.row.row.bk d am.o (by decide));have K4:=aa (au.o.row B.o.row.row d);have I4:=aa (B.o.row.more ad d av (fun x V=>by rw[gA.1 V];exact P3.o) (fun x V g o e=>by rw[gA.1 V];exact F2.o.apart (G.o.row.row.block e).2));have A4:Hid (∀x∈L++[(P,j)],∀i,i<w.heap.size->gG i x):=aa (fun x V i hi=>(cj.1 V).elim (fun h=>G.o.fresh x h i hi) (fun h=>by rw[gA.1 h];exact F2.o.apart (YU hi G.o.size)));have L4:=aa (B.o.mods.app d (fun q hq=>.inr (B.o.row.row.own hq).1));have DC:=aa (wn v most g K1 M c1 p r q 0 w4 B4.o HQ.o.2 ao.o.cap (by have:=u.o;omega) (by have:=u.o;omega) (by have:=u.o;have:=N.o;omega));clear ad d av aO B am au P3 R3
  go_wp2_with fail
  refine DC.o.mono ?_;rintro e w5 ⟨rfl,ax,T⟩;have S5:Hid (SF w0 w g O v most (b.extract q b.size) (p+q) (r+1) (some ⟨g4,0,none⟩) (m+1) c4 (L++[(P,j)]) w5):=aa ⟨⟨xt K1 M q 1,M- q,M- q,ax,by
   have:=(K4.o.apart B4.o (by decide) T).drop HQ.o.2;rw[EK];exact this⟩,I4.o.stream B4.o T (fun y hy=>A4.o y hy g G.o.lt),A4.o,G.o.lt,G.o.base,L4.o.app T (fun i e=>by cases e;exact .inl (.inl rfl))⟩
  clear ax T DC;go_wp2
  go_roundg f
  case measure=>omega
  case rel=>
   have h9:=HQ.o;have h8:=N.o;have h7:=u.o;have h6:=aT.o
   have V:(b.extract q b.size).size=b.size- q:=by rw[aj,Nat.min_self]
   exact⟨some ⟨g4,0,none⟩,m+1,c4,L++[(P,j)],b.extract q b.size,p+q,r+1,rfl,S5.o,by omega,aS.o,by omega,by omega,by omega,by omega⟩
end
section
attribute [local go_sem ↓] bD bF bH bI bu
attribute [local go_sem] bc aD bh bg bK bJ bd aY be aO ax cI dC dB dt dj di dA dr dp dn bW co YK bZ YM cz cy cw cu YL YP YB bS bP bR
theorem Mods.split{g:Nat}{o:Option Nat}{w w':World}(h:Mods (FS g o) w w')(hg:g<w.heap.size):∃z,w.grownBy z (some g)/\z.grownBy w' o:=by
 have c:g<w'.heap.size:=YU hg h.size;refine⟨{w with heap:=w.heap.set g (w'.heap[g]) hg},⟨rfl,rfl,rfl,?_,fun i d e=>?_⟩,⟨h.os,h.tape,h.output,?_,fun i d e=>?_⟩⟩
 ·show w.heap.size<=(w.heap.set g (w'.heap[g]) hg).size;rw[Array.size_set];exact ac _
 ·show(w.heap.set g (w'.heap[g]) hg)[i]? =w.heap[i]?;rw[Array.getElem?_set_ne hg (fun x=>e (by rw[x]))]
 ·show(w.heap.set g (w'.heap[g]) hg).size<=w'.heap.size;rw[Array.size_set];exact h.size
 ·show w'.heap[i]? =(w.heap.set g (w'.heap[g]) hg)[i]?;have f:i<w.heap.size:=by
   have:i<(w.heap.set g (w'.heap[g]) hg).size:=d;rwa[Array.size_set]at this
  by_cases x:g=i
  ·subst x;rw[Array.getElem?_set_self hg,eL c]
  ·rw[Array.getElem?_set_ne hg x];exact h.block i f (fun y=>y.elim (fun a=>x a.symm) (fun b=>e b.symm))
theorem Kp.not{w0 w:World}{K:Option Addr}{n c:Nat}{t:List UInt8}(h:Kp w0 w K n c t){g:Nat}{ty:TypeId}{cs:Array Value}(hb:Bk w g ty cs)(hne:ty≠U8):(Value.slice K n c).ownBlock≠some g:=by
 intro e;rcases h.lies with ⟨rfl,-⟩ | ⟨b,o,M,rfl,-,a,-⟩
 ·cases e
 ·simp only[Value.ownBlock,aX]at e;subst e;unfold Bk at hb a;rw[hb]at a;simp only[aX,fc]at a;exact hne a.2.1
theorem RowI.kept{wf w0 w y:World}{A:Option Addr}{n c:Nat}{L:List (Pk×Hs)}(h:RowI wf w A n c L){K:Option Addr}{m d:Nat}{t:List UInt8}(hk:Kp w0 w K m d t)(hm:w.grownBy y (Value.slice K m d).ownBlock):RowI wf y A n c L:=by
 refine⟨h.row.other hm fun q a e=>?_,fun x g=>hk.keep hm (h.ins x g),h.apart⟩;rcases h.row.lies with ⟨b,-⟩ | ⟨j,i,b,-,f,-⟩
 ·rw[b]at a;cases a
 ·rw[b]at a;cases a
  exact hk.not f (by decide) e
theorem RowI.fed{wf w0 w y:World}{A:Option Addr}{n c:Nat}{L:List (Pk×Hs)}(h:RowI wf w A n c L){g:Nat}{v most:Int}{K:Option Addr}{m d a k:Nat}{e:Int}{t:List UInt8}(hb:Bk w g SmT (smC v most K m d a k e))(hk:Kp w0 w K m d t)(hm:Mods (FS g (Value.slice K m d).ownBlock) w y)(ha:∀x∈L,gG g x):RowI wf y A n c L:=by
 obtain⟨z,b,f⟩:=hm.split hb.lt;exact(h.stream hb b ha).kept (hk.apart hb (by decide) b) f
theorem Zw{B:Nat}{w0 wk w y:World}(h0:Below B w0 w){g:Nat}{K:Option Addr}{m d:Nat}{t:List UInt8}(hg:B<=g)(hB:B<=w.heap.size)(hk:Kp wk w K m d t)(hw:B<=wk.heap.size)(hm:Mods (FS g (Value.slice K m d).ownBlock) w y):Below B w0 y:=
 hm.below h0 hB fun i a=>a.elim (fun e=>by omega) (fun e=>aC hw (hk.own e).1)
theorem RowK.first{w0 w:World}{A:Option Addr}{n c:Nat}{p:Pk}{h:Hs}{L:List (Pk×Hs)}(hr:RowK w0 w A n c ((p,h) :: L)):∃g M,A=some ⟨g,0,none⟩/\Bk w g PkT (pks ((p,h) :: M)).toArray:=by
 rcases hr.lies with ⟨-,d,-⟩ | ⟨g,M,d,-,b,e,f,-,a⟩
 ·have:=hr.len;simp at this;omega
 ·match M,n,b,a with
  | [],_,_,a=>simp at a
  | _ :: _,0,_,a=>simp at a
  | x :: M,n+1,b,a=>
    rw[GG,gY]at a;rw[a.1]at b;exact⟨g,M,d,b⟩
theorem Bk.first{w:World}{g:Nat}{p:Pk}{h:Hs}{M:List (Pk×Hs)}(hb:Bk w g PkT (pks ((p,h) :: M)).toArray){r:Nat}(hr:r<25):w.cell? ⟨g,r,none⟩=(pkC p h)[r]? :=by
 rw[hb.cell,ay];have:=mG ((p,h) :: M) 0 r (Nat.succ_pos _) hr;rwa[jU,bV]at this
theorem Bk.fed{w0 w y:World}{q:Nat}{ty:TypeId}{cs:Array Value}(h:Bk w q ty cs)(h1:ty≠U8){g:Nat}{K:Option Addr}{m d:Nat}{t:List UInt8}(hq:q≠g)(hk:Kp w0 w K m d t)(hm:Mods (FS g (Value.slice K m d).ownBlock) w y):Bk y q ty cs:=
 h.mods hm fun x=>x.elim hq (hk.not h h1)
theorem Bk.ne{w:World}{q g:Nat}{ty tz:TypeId}{cs ds:Array Value}(h:Bk w q ty cs)(h':Bk w g tz ds)(hne:ty≠tz):q≠g:=by
 rintro rfl;unfold Bk at h h';rw[h]at h';simp only[aX,fc]at h';exact hne h'.2.1
theorem Kp.fed{w0 w1 w y:World}{K K':Option Addr}{n c m d:Nat}{t u:List UInt8}(h:Kp w0 w K n c t){g:Nat}{cs:Array Value}(hb:Bk w g SmT cs)(hx:∀i,(Value.slice K n c).ownBlock=some i->(Value.slice K' m d).ownBlock≠some i)(hm:Mods (FS g (Value.slice K' m d).ownBlock) w y)(_hk:Kp w1 w K' m d u):Kp w0 y K n c t:=by
 refine⟨h.len,h.cap,?_⟩;rcases h.lies with b| ⟨q,o,M,rfl,f,a,j⟩
 ·exact .inl b
 ·exact .inr ⟨q,o,M,rfl,f,a.mods hm (fun x=>x.elim (fun e=>a.ne hb (by decide) e) (hx q rfl)),j⟩
theorem pO(v most:Int)(g:Nat)(K:Option Addr)(n c a k:Nat)(e:Int)(he:e≠0)(s:ByteArray)(w:World)(hb:Bk w g SmT (smC v most K n c a k e)):
  Calls prog 10 #[.pointer (some ⟨g,0,none⟩),.string s] w fun e' w'=>e'= .returned (.tuple #[.slice none 0 0,.int .i64 e])/\Below w.heap.size w w':=by
 have b:=aa (aq w.heap.size w);have d:w.cell? ⟨g,5,none⟩=some (.int .i64 e):=hb.cell 5;have f:(e !=0)=true:=aA.2 he;clear hb he;go_enter func10,ntmps10;go_wp2
 go_quiet (fail)
 go_wp2;go_ret2;exact⟨rfl,aV b.o _⟩
theorem uo{fn:Func}{p:Tmp}(hr:fn.results= #[.cell p 23])(tmps:Array Value){w:World}{g:Nat}{a b:Value}(hp:tmps.getD p undef= .pointer (some ⟨g,0,none⟩))(hb:Bk w g 23 #[a,b]):(results fn tmps).run prog w= .ok (.agg #[a,b]) w:=by
 obtain⟨⟨c,d⟩,-⟩:=hb.two;rw[Jf]at hp;simp only[results,hr];simp[hp,go_sem,c,d]
theorem FO.len{w0 w w':World}{g:Nat}{o:Option Nat}{v most:Int}{r:List Pk×ByteArray×Nat×Nat×Int}{A:Option Addr}{m cm:Nat}{L:List (Pk×Hs)}{K:Option Addr}{n c:Nat}(h:FO w0 w g o v most r w' A m cm L K n c):m=r.1.length:=by
 rw[<-h.map,eD,h.row.row.len]
theorem tg{L:List (Pk×Hs)}{p:Pk}(h:L.map Prod.fst=[p]):∃k,L=[(p,k)]:=by
 match L,h with
 | [],h=>cases h
 | [(q,k)],h=>
   simp only[fI,gC,gY,Hj]at h;exact⟨k,by rw[h]⟩
 | _ :: _ :: _,h=>simp at h
def sxv(l:List ByteArray):List Value:=l.map Value.string
theorem tX(l:List ByteArray)(x:ByteArray):sxv (l++[x])=sxv l++[.string x]:=by simp[sxv]
theorem xW(l:List ByteArray):∀u∈sxv l,u.oneCell'=true:=by
 intro u a;obtain⟨c,_,rfl⟩:=jX.1 a;rfl
theorem Rd.atS{w:World}{B n:Nat}{A:Option Addr}{l:List ByteArray}(h:Rd w B 1 A n (sxv l)){i:Nat}(hi:i<n):∃b o z,A=some ⟨b,o,none⟩/\b<B/\l[i]? =some z/\w.cell? ⟨b,o+i,none⟩=some (.string z):=by
 obtain⟨b,o,u,e,c,f,d⟩:=h.at1 hi;have a:i<l.length:=by have:=h.len;simp[sxv]at this;omega
 refine⟨b,o,l[i],e,c,List.getElem?_eq_getElem a,?_⟩;have:u= .string l[i]:=by simpa [sxv,a]using f.symm
 rw[<-this];exact d
theorem vE:(prog.info? 9).map (fun i=>(i.zero,i.size,i.bytes))=some (some (.string ⟨#[]⟩),1,16):=by kernel_rfl
theorem tA{P:Program}{w:World}{ops:Array Oper}{o:Oper}{a:Act}{K:Act->World->Prop}{Q:Exit->Act->World->Prop}{E:Prop}(hgd:o.guard=none)(s x:Operand)(t:TypeId)
  (ho:o.op= .call {callee:=.builtin .append,args:=#[s,x],argTypes:=#[t,t]})
  (base:Nat)(e:TypeId)(z:Value)(size bytes:Nat)(ht:P.underlying t=some (.slice e))(hinfo:(P.info? e).map (fun i=>(i.zero,i.size,i.bytes))=some (some z,size,bytes))
  (hzs:z.cells.size=size)(hsz:0<size)(v:Value)(n:Nat)(xs:List Value)(hs:a.eval s=v)(hown:w.ownsRow base e size v n xs)
  (B:Nat)(A:Option Addr)(m c:Nat)(news:List Value)(hx:a.eval x= .slice A m c)(hr:Rd w B size A m news)(h1:∀u∈news,u.oneCell'=true)
  (h63:n+m<=maxLen)(hbytes:(n+m)*bytes<=140737488355328)(hbase:base<=w.heap.size)
  (h:∀v' w',w'.ownsRow base e size v' (n+m) (xs++news)->w.grownBy w' v.ownBlock->(v'.ownBlock=v.ownBlock\/v'.ownBlock=some w.heap.size)->K (a.put o.dst v') w'):
  if Region.wanted o (yielded ops a.tmps)=true then Oper.wp P o a w K Q else E:=by
 have b:Region.wanted o (yielded ops a.tmps)=true:=by simp[Region.wanted,hgd]
 rw[if_pos b];exact vY w s x t ho base e z size bytes ht hinfo hzs hsz v n xs hs hown B A m c news hx hr h1 h63 hbytes hbase h
theorem wY(s:ByteArray)(A:Option Addr)(l:List Int)(c:Nat)(w:World)(hr:Rd w w.heap.size 1 A l.length (iv l))(hl:l.length<=1000000)(hs:s.size<=1000000000000):
  Calls prog 9 #[.string s,.slice A l.length c] w fun e w'=>∃v,e= .returned v/\w'.ownsRow w.heap.size 9 1 v (l.length+1) (sxv (rr s l))/\Below w.heap.size w w':=by
 have P:=aa hr;have Q:=aa hs;have x:=aa hl
 clear hr hs hl;go_enter func9,ntmps9;go_wp2
 go_loopw [0,5,6] (fun sv o i wr=>∃k:Nat,k<=l.length/\i= .int .i64 k/\sv= .string (mf s (l.take k)).2/\wr.ownsRow w.heap.size 9 1 o k (sxv (mf s (l.take k)).1)/\Below w.heap.size w wr) (fun _ _ i _=>l.length- (intOf i).toNat)
 case atStart=>exact⟨0,by omega,rfl,rfl,dD _ _ _ _,aq _ _⟩
 case round=>
  obtain⟨k,U,rfl,rfl,D,C⟩:=hrel;have d:=aa D;have b:=aa C
  have h:Hid ((mf s (l.take k)).2.size<=1000000000000):=aa (aC (xr (l.take k) ([],s)) Q.o);clear D
  by_cases n:k<l.length
  ·obtain⟨V,oA,z,rfl,S,K,T⟩:=(P.o.below C).atI n;have H:l[k]=z:=by rw[List.getElem?_eq_getElem n]at K;exact Option.some.inj K
   have y:Hid (mf s (l.take (k+1))=qG (mf s (l.take k)) z):=aa (by rw[Aj s n,H]);obtain⟨⟨L,t⟩,B⟩:∃r,mf s (l.take k)=r:=⟨_,rfl⟩;rw[B]at d h y⊢;obtain⟨N,O⟩:=EM t z;have p:Hid (qG (L,t) z=(L++[t.extract 0 (tB t z)],t.extract (tB t z) t.size)):=aa rfl;have m:=aa (fun W=>BO z ((t.size:Int)+1) W (by have:=h.o;dsimp only at this;omega));rw[show mq z ((t.size:Int)+1)=(tB t z:Int)from N]at m;dsimp only at d h⊢;obtain⟨q,M⟩:∃q,tB t z=q:=⟨_,rfl⟩;rw[M]at O m p;have b1:(0:Int)<=(k:Int):=by omega
   have b2:(k:Int)<(l.length:Int):=by omega
   have G:wrap64 ((k:Int)+1)=((k+1:Nat):Int):=by have:=x.o;unfold wrap64;omega
   have X:(0:Int)<=(q:Int):=by omega
   have Y:(q:Int)<=(t.size:Int):=by omega
   have Z:(t.size:Int)+1<=9223372036854775807:=by have:=h.o;omega
   have I:Hid (sxv (L++[t.extract 0 q])=sxv L++[.string (t.extract 0 q)]):=aa (tX _ _);clear K H M N O B
   go_wp2_with fail
   refine(m.o _).mono ?_;rintro e w2 ⟨rfl,rfl⟩;clear m T S
   go_wp2_with fail
   go_region_law (refine tA (by rfl) _ _ 35 (by rfl) w.heap.size 9 (.string ⟨#[]⟩) 1 16 underlying35 vE rfl (by decide) _ k _ (by rfl) (by first| exact d.o.alloc _| exact lV (d.o.alloc _) 1) _ _ 1 1 [.string (t.extract 0 q)] (by rfl) (by first| exact Rd.lit _ _ _ rfl (ed _) rfl) (xW [t.extract 0 q]) (by have:=x.o;unfold maxLen;omega) (by have:=x.o;omega) (by have:=b.o.size;simp;omega) ?_;intro F E a f j)
   all_goals
    have R:E.ownsRow w.heap.size 9 1 F (k+1) (sxv (L++[t.extract 0 q]))/\Below w.heap.size w E:=⟨by rw[I.o];exact a,kz (by first| exact b.o.alloc b.o.size _| exact aV (b.o.alloc b.o.size _) 1) f (by have:=b.o.size;simp;omega) (fun g J=>(cX d.o g J).1)⟩;clear a f j;go_wp2
    go_roundw
    case rel=>exact⟨k+1,by omega,by rw[G],by rw[y.o,p.o],by rw[y.o,p.o];exact R.1,R.2⟩
    case measure=>rw[G];simp only[intOf,dN];omega
  ·obtain rfl:k=l.length:=by omega
   rw[GK]at d h⊢;have u:Hid (rr s l=(mf s l).1++[(mf s l).2]):=aa rfl;obtain⟨⟨L,t⟩,B⟩:∃r,mf s l=r:=⟨_,rfl⟩;rw[B]at d h u⊢;dsimp only at d h u⊢;have I:Hid (sxv (rr s l)=sxv L++[.string t]):=aa (by rw[u.o];exact tX _ _);have b2:(l.length:Int)<=(l.length:Int):=Int.le_refl _;clear B n U
   go_wp2_with (at_builtin;refine kF _ rfl (.tmp 31) (.tmp 33) 35 rfl w.heap.size 9 (.string ⟨#[]⟩) 1 16 underlying35 vE rfl (by decide) _ l.length _ rfl (d.o.alloc _) _ _ 1 1 [.string t] rfl (Rd.lit _ _ _ rfl (ed _) rfl) (xW [t]) (by have:=x.o;unfold maxLen;omega) (by have:=x.o;omega) (by have:=b.o.size;simp;omega) ?_;intro F E a f j)
   have R:E.ownsRow w.heap.size 9 1 F (l.length+1) (sxv (rr s l))/\Below w.heap.size w E:=⟨by rw[I.o];exact a,kz (b.o.alloc b.o.size _) f (by have:=b.o.size;simp;omega) (fun g J=>(cX d.o g J).1)⟩;clear a f j;go_wp2;go_ret;exact⟨F,rfl,R.1,R.2⟩
theorem aaU{v mp md:Int}(h:nF v mp md≠true):nF v mp md=false:=by
 cases e:nF v mp md
 ·rfl
 ·exact absurd e h
theorem tY{v mp md:Int}(h:nF v mp md=true):YG v=true:=by
 unfold nF at h;simp only[eh]at h;exact h.1
theorem zn(A:Option Addr)(n c:Nat)(hn:n<=c)(X:Option Addr)(cx:Nat)(ty:TypeId)(w:World):
  (Builtin.append_ #[27,27] ty #[.slice A n c,.slice X 0 cx]).run prog w= .ok (.slice A n c) w:=by
 obtain⟨i,b,f,a,e⟩:=o8 vm;have d:=underlying27;cases X<;>cases A<;>simp[Builtin.append_,run_underlying d,sizeOf,typeInfo,b,Builtin.lenOf,Builtin.firstCells,hn,loadCells,loadCellsFrom,storeCells]
theorem tP{w:World}{ops:Array Oper}{rest:List Oper}{o:Oper}{a:Act}{Q:Exit->Act->World->Prop}(hgd:o.guard=none)(s x:Operand)
  (ho:o.op= .call {callee:=.builtin .append,args:=#[s,x],argTypes:=#[27,27]})
  {w0:World}{A:Option Addr}{n c:Nat}{L:List (Pk×Hs)}(hs:a.eval s= .slice A n c)(hr:RowI w0 w A n c L)(h0:w0.heap.size<=w.heap.size)(X:Option Addr)(N:List (Pk×Hs))(m cx:Nat)(hx:a.eval x= .slice X m cx)(hsr:RdK w X m N)(hap:∀y∈N,∀g o,A=some ⟨g,o,none⟩->gG g y)(hb:n+m<=100000000000)
  (h:∀A' c' w',RowI w0 w' A' (n+m) c' (L++N)->w.grownBy w' (Value.slice A n c).ownBlock->wpList prog ops Q rest (a.put o.dst (.slice A' (n+m) c')) w'):wpList prog ops Q (o :: rest) a w:=by
 rcases dh m with rfl| k
 ·obtain rfl:N=[]:=aF hsr.len;refine Y6 hgd fun _ j=>?_;unfold Oper.wp execOp;simp only[ho,resolve,invoke,builtin,Sem.run_bind,Sem.run_pure,ik,kD,fI,gC,hs,hx,zn A n c hr.row.cap X cx];exact j _ _ (h A c w (by rw[YO];exact hr) (jy w _))
 ·obtain⟨f,rfl,-⟩:=hsr.rd.addr (by
   intro e;have b:=gJ N;have d:=hsr.len;rw[e]at b;simp at b;omega)
  exact oE hgd s x ho hs hr.row h0 f N m cx _ hx hsr.len k hsr.rd hb fun g c' w' b d i _=>h _ _ _ (hr.more b d i hsr.ins hap) d
structure SCut (w wb:World) (v most md:Int) (ga gb gl:Nat) (R:List Pk×ByteArray×Nat×Nat×Int) (A1:Option Addr) (m1 cm1:Nat) (L1:List (Pk×Hs)) (cv:Value) (C:List ByteArray) (t:ByteArray) (a k:Nat) (e:Int) (x:World):Prop where
 sa:∃K n c,Bk x ga SmT (smC v most K n c R.2.2.1 R.2.2.2.1 R.2.2.2.2)/\Kp w x K n c (ls R.2.1)/\(∀i,(Value.slice K n c).ownBlock=some i->i<wb.heap.size)
 one:RowI w x A1 m1 cm1 L1
 onelt:∀g o,A1=some ⟨g,o,none⟩->g<wb.heap.size
 ap0:∀y∈L1,∀g,wb.heap.size<=g->gG g y
 ap1:∀y∈L1,gG gb y
 sb:∃K n c,Bk x gb SmT (smC v most K n c a k e)/\Kp wb x K n c (ls t)
 lim:Bk x gl 23 #[.int .i64 most,.int .i64 md]
 chunks:x.ownsRow w.heap.size 9 1 cv C.length (sxv C)
 low:Below w.heap.size w x
 base:w.heap.size<=wb.heap.size/\wb.heap.size<=x.heap.size/\w.heap.size<=gb/\ga<wb.heap.size/\ga≠gb
section
variable {w wb:World} {v most md:Int} {ga gb gl:Nat} {R:List Pk×ByteArray×Nat×Nat×Int} {A1:Option Addr} {m1 cm1:Nat} {L1:List (Pk×Hs)} {cv:Value} {C:List ByteArray} {t:ByteArray} {a k:Nat} {e:Int} {x y:World}
theorem SCut.below(s:SCut w wb v most md ga gb gl R A1 m1 cm1 L1 cv C t a k e x)(hb:Below x.heap.size x y):SCut w wb v most md ga gb gl R A1 m1 cm1 L1 cv C t a k e y:=by
 obtain⟨K,n,c,b,i,j⟩:=s.sa;obtain⟨f,m,h,d,l⟩:=s.sb;obtain⟨b1,b2,g⟩:=s.base;exact⟨⟨K,n,c,Yh b hb,i.below hb,j⟩,s.one.below hb,s.onelt,s.ap0,s.ap1,⟨f,m,h,Yh d hb,l.below hb⟩,Yh s.lim hb,dV s.chunks hb,Yf s.low hb,b1,aC b2 hb.size,g⟩
theorem Eg(h:x.ownsRow w.heap.size 9 1 cv C.length (sxv C)){K:Option Addr}{n c:Nat}{u:List UInt8}{cs:Array Value}(h4:Bk x gb SmT cs)(h5:Kp wb x K n c u)(hm:Mods (FS gb (Value.slice K n c).ownBlock) x y):y.ownsRow w.heap.size 9 1 cv C.length (sxv C):=by
 refine jg h hm fun g a d=>d.elim (fun e=>nS h h4 (by decide) (by rw[a,e])) (fun e=>?_);rcases h5.lies with ⟨rfl,-⟩ | ⟨q,o,M,rfl,-,b,-⟩
 ·cases e
 ·simp only[Value.ownBlock,aX]at e;subst e;exact nS h b (by decide) a
theorem SCut.fed(s:SCut w wb v most md ga gb gl R A1 m1 cm1 L1 cv C t a k e x){K':Option Addr}{n' c':Nat}(h4:Bk x gb SmT (smC v most K' n' c' a k e))(h5:Kp wb x K' n' c' (ls t)){r:List Pk×ByteArray×Nat×Nat×Int}{A2:Option Addr}{m2 cm2:Nat}{L2:List (Pk×Hs)}{K2:Option Addr}{n2 c2:Nat}
  (F:FO wb x gb (Value.slice K' n' c').ownBlock v most r y A2 m2 cm2 L2 K2 n2 c2):SCut w wb v most md ga gb gl R A1 m1 cm1 L1 cv C r.2.1 r.2.2.1 r.2.2.2.1 r.2.2.2.2 y:=by
 obtain⟨K,n,c,h,j,f⟩:=s.sa;obtain⟨b1,b2,b,g,d⟩:=s.base;refine⟨⟨K,n,c,h.fed (by decide) d h5 F.mods,j.fed h4 (fun i l e=>?_) F.mods h5,f⟩,s.one.fed h4 h5 F.mods s.ap1,s.onelt,s.ap0,s.ap1,⟨K2,n2,c2,F.bk,F.kp⟩,s.lim.fed (by decide) (s.lim.ne h4 (by decide)) h5 F.mods,Eg s.chunks h4 h5 F.mods,Zw s.low b s.low.size h5 b1 F.mods,b1,aC b2 F.mods.size,b,g,d⟩;have:=(h5.own e).1;have:=f i l;omega
theorem SCut.app(s:SCut w wb v most md ga gb gl R A1 m1 cm1 L1 cv C t a k e x){A:Option Addr}{m cm:Nat}{L:List (Pk×Hs)}(hr:RowI wb x A m cm L)(hm:x.grownBy y (Value.slice A m cm).ownBlock):SCut w wb v most md ga gb gl R A1 m1 cm1 L1 cv C t a k e y:=by
 obtain⟨K,n,c,l,p,r⟩:=s.sa;obtain⟨f,G,j,u,B⟩:=s.sb;obtain⟨b1,b2,h⟩:=s.base;have E:Mods (fun i=>(Value.slice A m cm).ownBlock=some i) x y:=(Mods.refl x).app hm (fun i e=>.inl e);refine⟨⟨K,n,c,hr.row.bk hm l (by decide),p.row hr.row hm,r⟩,⟨s.one.row.other hm fun g b e=>?_,fun z d=>hr.row.keep hm (s.one.ins z d) fun g o e=>s.ap0 z d g (hr.row.block e).1,s.one.apart⟩,s.onelt,s.ap0,s.ap1,⟨f,G,j,hr.row.bk hm u (by decide),B.row hr.row hm⟩,hr.row.bk hm s.lim (by decide),jg s.chunks E fun g b e=>?_,kz s.low hm s.low.size (fun q F=>aC b1 (hr.row.own F).1),b1,aC b2 hm.size,h⟩
 ·have:=s.onelt g 0 b;have:=(hr.row.own e).1;omega
 ·rcases hr.row.lies with ⟨rfl,-⟩ | ⟨q,M,rfl,-,D,-⟩
  ·cases e
  ·simp only[Value.ownBlock,aX]at e;subst e;exact nS s.chunks D (by decide) b
end
theorem RowI.wider{w0 w' x:World}{A:Option Addr}{n c:Nat}{L:List (Pk×Hs)}(h:RowI w0 x A n c L)(hb:w'.heap.size<=w0.heap.size):RowI w' x A n c L:=by
 refine⟨⟨h.row.len,?_⟩,h.ins,h.apart⟩;rcases h.row.lies with a| ⟨g,M,a,b,d⟩
 ·exact .inl a
 ·exact .inr ⟨g,M,a,aC hb b,d⟩
theorem RdK.none(x:World):RdK x none 0 []:=⟨Rd.nil _ _ _ _,by simp⟩
theorem DK{w:World}{base:Nat}{c:Nat}{A:Option Addr}{n:Nat}{xs:List Value}(h:w.ownsRow base 9 1 (.slice A n c) n xs):Rd w w.heap.size 1 A n xs:=by
 obtain⟨d,e,a,f,b⟩:=jK h;cases a;exact b
theorem kO{v most:Int}(hm:16<=most){T t:ByteArray}{a k:Nat}{l:List Pk}{e:Int}(h:smG v most T 0 0 []=(l,t,a,k,e)):(t.size:Int)<=most- 1/\k=l.length/\t.size<=T.size/\a<=T.size/\k<=T.size:=by
 obtain⟨b,c,d,f,g,j⟩:=sG v most _ T 0 0 [] (ac _);rw[h]at b c d f g;dsimp only[List.length_nil]at b c d f g;refine⟨?_,by omega,by omega,by omega,by omega⟩
 by_cases i:e=0
 ·exact(mT (b i) hm).2.2
 ·rw[c i];show((0:Nat):Int)<=most- 1;omega
theorem zX{l:List ByteArray}{x:ByteArray}(h:x∈l):x.size<=(jO l).size:=by
 obtain⟨a,b,rfl⟩:=List.append_of_mem h;rw[<-aN,<-aN,ko,fR,YS];simp only[List.length_append];omega
theorem wZ{l:List ByteArray}{i:Nat}{x:ByteArray}(h:l[i]? =some x):jO (l.take (i+1))=jO (l.take i)++x:=by
 obtain⟨a,rfl⟩:=YI.1 h;rw[fE a,xa]
theorem ze{v mp md:Int}(h:nF v mp md=true):16<=mp/\mp<=1048576:=by
 unfold nF at h;simp only[eh,Fx]at h;omega
end
theorem aba{v most:Int}{T:ByteArray}{l:List Pk}{a k:Nat}(hv:YG v=true)(h:smG v most T 0 0 []=(l,⟨#[]⟩,a,k,0)){p:Pk}(hE:mqE v p=0)
  (hn:∀q∈p.props,q.n<4294967296)(hw:∀q∈p.will.props,q.n<4294967296)(hm:((mqS v p).size:Int)<=most):
  smG v most (T++mqS v p) 0 0 []=(l++[p],⟨#[]⟩,a+(mqS v p).size,k+1,0):=by
 have b:(⟨#[]⟩:ByteArray)++mqS v p=mqS v p:=eX (by rw[fe];rfl);have d:(mqS v p).extract (mqS v p).size (mqS v p).size=⟨#[]⟩:=eX (by
  rw[Y9,gD (by rw[aN];exact ac _)];rfl)
 have c:=M7 hE hn hw hm;rw[CM h,b,fK,c,if_pos rfl];dsimp only;rw[d,t7 hv];rfl
section
structure TW (w:World) (v mp md:Int) (gl g:Nat) (L G:List (Pk×Hs)) (AG:Option Addr) (cG:Nat) (x:World):Prop where
 row:RowK w x AG G.length cG G
 mem:∀y∈G,y∈L
 st:Bk x g SmT (smC v mp none 0 0 0 0 0)
 lim:Bk x gl 23 #[.int .i64 mp,.int .i64 md]
 low:Below w.heap.size w x
 base:w.heap.size<=g
section
variable {w x y:World} {v mp md:Int} {gl g:Nat} {L G:List (Pk×Hs)} {AG:Option Addr} {cG:Nat} {p:Pk} {h:Hs}
theorem TW.below(s:TW w v mp md gl g L G AG cG x)(hb:Below x.heap.size x y):TW w v mp md gl g L G AG cG y:=
 ⟨s.row.below hb,s.mem,Yh s.st hb,Yh s.lim hb,Yf s.low hb,s.base⟩
theorem TW.app(s:TW w v mp md gl g L G AG cG x)(hm:(p,h)∈L){q c':Nat}(hr:RowK w y (some ⟨q,0,none⟩) (G.length+1) c' (G++[(p,h)]))(hg:x.grownBy y (Value.slice AG G.length cG).ownBlock):TW w v mp md gl g L (G++[(p,h)]) (some ⟨q,0,none⟩) c' y:=
 ⟨by rw[List.length_append];exact hr,fun z b=>(cj.1 b).elim (s.mem z) (fun e=>by rw[gA.1 e];exact hm),s.row.bk hg s.st (by decide),s.row.bk hg s.lim (by decide),kz s.low hg s.low.size (fun i a=>(s.row.own a).1),s.base⟩
end
structure STp (w wb:World) (v most md:Int) (gb gl:Nat) (AW:Option Addr) (cW:Nat) (G:List (Pk×Hs)) (cv:Value) (C:List ByteArray) (t:ByteArray) (a k:Nat) (e:Int) (x:World):Prop where
 sb:∃K n c,Bk x gb SmT (smC v most K n c a k e)/\Kp wb x K n c (ls t)
 want:RowI w x AW G.length cW G
 wlt:∀g o,AW=some ⟨g,o,none⟩->g<wb.heap.size
 ap0:∀y∈G,∀g,w.heap.size<=g->gG g y
 lim:Bk x gl 23 #[.int .i64 most,.int .i64 md]
 chunks:x.ownsRow w.heap.size 9 1 cv C.length (sxv C)
 low:Below w.heap.size w x
 base:w.heap.size<=wb.heap.size/\wb.heap.size<=x.heap.size/\w.heap.size<=gb
section
variable {w wb:World} {v most md:Int} {gb gl:Nat} {AW:Option Addr} {cW:Nat} {G:List (Pk×Hs)} {cv:Value} {C:List ByteArray} {t:ByteArray} {a k:Nat} {e:Int} {x y:World}
theorem STp.below(s:STp w wb v most md gb gl AW cW G cv C t a k e x)(hb:Below x.heap.size x y):STp w wb v most md gb gl AW cW G cv C t a k e y:=by
 obtain⟨c,h,f,b,g⟩:=s.sb;obtain⟨b1,b2,d⟩:=s.base;exact⟨⟨c,h,f,Yh b hb,g.below hb⟩,s.want.below hb,s.wlt,s.ap0,Yh s.lim hb,dV s.chunks hb,Yf s.low hb,b1,aC b2 hb.size,d⟩
theorem STp.fed(s:STp w wb v most md gb gl AW cW G cv C t a k e x){K':Option Addr}{n' c':Nat}(h4:Bk x gb SmT (smC v most K' n' c' a k e))(h5:Kp wb x K' n' c' (ls t)){r:List Pk×ByteArray×Nat×Nat×Int}{A2:Option Addr}{m2 cm2:Nat}{L2:List (Pk×Hs)}{K2:Option Addr}{n2 c2:Nat}
  (F:FO wb x gb (Value.slice K' n' c').ownBlock v most r y A2 m2 cm2 L2 K2 n2 c2):STp w wb v most md gb gl AW cW G cv C r.2.1 r.2.2.1 r.2.2.2.1 r.2.2.2.2 y:=by
 obtain⟨b1,b2,b⟩:=s.base;exact⟨⟨K2,n2,c2,F.bk,F.kp⟩,s.want.fed h4 h5 F.mods (fun z c=>s.ap0 z c gb b),s.wlt,s.ap0,s.lim.fed (by decide) (s.lim.ne h4 (by decide)) h5 F.mods,Eg s.chunks h4 h5 F.mods,Zw s.low b s.low.size h5 b1 F.mods,b1,aC b2 F.mods.size,b⟩
theorem STp.app(s:STp w wb v most md gb gl AW cW G cv C t a k e x){A:Option Addr}{m cm:Nat}{L:List (Pk×Hs)}(hr:RowI wb x A m cm L)(hm:x.grownBy y (Value.slice A m cm).ownBlock):STp w wb v most md gb gl AW cW G cv C t a k e y:=by
 obtain⟨d,u,h,j,l⟩:=s.sb;obtain⟨b1,b2,f⟩:=s.base;have p:Mods (fun i=>(Value.slice A m cm).ownBlock=some i) x y:=(Mods.refl x).app hm (fun i e=>.inl e);refine⟨⟨d,u,h,hr.row.bk hm j (by decide),l.row hr.row hm⟩,⟨s.want.row.other hm fun g b e=>?_,fun z c=>hr.row.keep hm (s.want.ins z c) fun g o e=>s.ap0 z c g (aC b1 (hr.row.block e).1),s.want.apart⟩,s.wlt,s.ap0,hr.row.bk hm s.lim (by decide),jg s.chunks p fun g b e=>?_,kz s.low hm s.low.size (fun q r=>aC b1 (hr.row.own r).1),b1,aC b2 hm.size,f⟩
 ·have:=s.wlt g 0 b;have:=(hr.row.own e).1;omega
 ·rcases hr.row.lies with ⟨rfl,-⟩ | ⟨q,M,rfl,-,n,-⟩
  ·cases e
  ·simp only[Value.ownBlock,aX]at e;subst e;exact nS s.chunks n (by decide) b
end
theorem aa9{w wb x:World}{v mp md:Int}{gb gl:Nat}{AW:Option Addr}{cW:Nat}{G:List (Pk×Hs)}{cv:Value}{C:List ByteArray}{t u T:ByteArray}{a k:Nat}{e:Int}{A:Option Addr}{m cm:Nat}{L:List (Pk×Hs)}
  (s:STp w wb v mp md gb gl AW cW G cv C t a k e x)(hr:RowI wb x A m cm L)(hap:∀y∈L,gG gb y)(hres:smG v mp T 0 0 []=(L.map Prod.fst,t,a,k,e))(hm:16<=mp)(hT:T.size<=100000000)(hu:u.size<=100000000):
  Calls prog 10 #[.pointer (some ⟨gb,0,none⟩),.string u] x fun e' y=>∃A2 m2 cm2 L2 t2 a2 k2 e2,e'= .returned (.tuple #[.slice A2 m2 cm2,.int .i64 e2])/\STp w wb v mp md gb gl AW cW G cv C t2 a2 k2 e2 y/\RowI wb y A m cm L/\RdK y A2 m2 L2/\(∀z∈L2,gG gb z)/\(∀z∈L2,∀g o,A=some ⟨g,o,none⟩->gG g z)/\
   smG v mp (T++u) 0 0 []=((L++L2).map Prod.fst,t2,a2,k2,e2):=by
 obtain⟨q,k2,r,B,D⟩:=kO hm hres;obtain⟨K,n,c,b,d⟩:=s.sb;have p:n=t.size:=by rw[<-aN];exact d.len.symm
 by_cases f:e=0
 ·subst f;refine(d9 v mp gb K n c a k t u wb x b d s.base.2.1 (by omega) (by omega)).mono ?_;rintro e' y ⟨A2,m2,cm2,L2,j,E,l,rfl,F⟩;refine⟨A2,m2,cm2,L2,_,_,_,_,rfl,s.fed b d F,hr.fed b d F.mods hap,F.row.read,fun z h=>F.fresh z h gb b.lt,fun z h g o e=>F.fresh z h g (hr.row.block e).2,?_⟩;rw[CM hres,Ii,F.map]
 ·refine Yg (pO v mp gb K n c a k e f u x b) fun y i=>?_;refine⟨none,0,0,[],t,a,k,e,rfl,s.below i,hr.below i,RdK.none _,by simp,by simp,?_⟩;rw[EJ hres f,YO]
theorem aas{v mp:Int}{C:List ByteArray}{i:Nat}{l l':List Pk}{t t':ByteArray}{a a' k k':Nat}{e:Int}(h:smG v mp (jO (C.take i)) 0 0 []=(l,t,a,k,e))(hw:smG v mp (jO C) 0 0 []=(l',t',a',k',0)):e=0:=by
 by_cases c:e=0
 ·exact c
 ·have d:jO (C.take i)++jO (C.drop i)=jO C:=eX (by rw[fe,ko,ko,ko,<-fR,cg]);have b:=EJ (u:=jO (C.drop i)) h c;rw[d,hw]at b;simp only[bG]at b;exact absurd b.2.2.2.2.symm c
theorem TW.want{w x:World}{v mp md:Int}{gl g:Nat}{L G:List (Pk×Hs)}{AG:Option Addr}{cG:Nat}{A:Option Addr}{n:Nat}(s:TW w v mp md gl g L G AG cG x)(hl:RdK w A n L):RowI w x AG G.length cG G/\(∀y∈G,∀g,w.heap.size<=g->gG g y):=
 have b:=fun y (a:y∈G) g (c:w.heap.size<=g)=>(hl.ins y (s.mem y a)).apart c
 ⟨⟨s.row,fun y a=>(hl.below s.low).ins y (s.mem y a),fun y a g _ e=>b y a g (s.row.block e).1⟩,b⟩
end
section
attribute [local go_sem ↓] bD bF bH bI bu
attribute [local go_sem] bc aD bh bg bK bJ bd aY be aO ax cI dC dB dt dj di dA dr dp dn bW co YK bZ YM cz cy cw cu YL YP YB bS bP bR
def abk(P:Prop)(w:World)(e:Ending)(w':World):Prop:=∃b:Bool,e= .returned (.bool b)/\(b=true->P)/\Below w.heap.size w w'
theorem Y0{P:Prop}{w w':World}(hb:Below w.heap.size w w'):abk P w (.returned (.bool false)) w':=⟨false,rfl,(fun h=>by cases h),hb⟩
theorem aae{P:Prop}{w w':World}(b:Bool)(h:b=true->P)(hb:Below w.heap.size w w'):abk P w (.returned (.bool b)) w':=⟨b,rfl,h,hb⟩
theorem aaa:∀(l:List Pr),(∀q∈l,q.text.size<=300/\q.value.size<=300)->wt l<=l.length*600
 | [],_=>by simp[wt]
 | p :: l,h=>by
   have h1:=aaa l (fun q a=>h q (kV _ a));have b:=h p (by simp);simp[wt]at h1⊢;omega
theorem ZA(l:List Pr)(A:Option Addr)(c:Nat)(w:World)(h:Rd w w.heap.size 4 A l.length (prs l))(hl:l.length<=4611686018427387904):
  Calls prog 33 #[.slice A l.length c] w (abk (Ig l=true) w):=by
 have H:=aa h;have z:=aa hl;clear h hl
 go_enter func33,ntmps33;go_wp2
 go_loopw [3] (fun i wr=>∃k:Nat,k<=l.length/\i= .int .i64 k/\(∀q∈l.take k,q.text.size<=300/\q.value.size<=300)/\Below w.heap.size w wr) (fun i _=>l.length- (intOf i).toNat)
 case atStart=>exact⟨0,by omega,rfl,by simp,aq _ _⟩
 case round=>
  obtain⟨k,I,rfl,e,d⟩:=hrel;have x:=aa e;have g:=aa d
  clear e
  by_cases a:k<l.length
  ·obtain⟨b,o,rfl,J,B,C,D,E⟩:=(H.o.below d).atP a;have y:Hid (l.take (k+1)=l.take k++[l[k]]):=aa (fE a);have b1:(0:Int)<=(k:Int):=by omega
   have b2:(k:Int)<(l.length:Int):=by omega
   have r:wrap64 ((k:Int)+1)=((k+1:Nat):Int):=by have:=z.o;unfold wrap64;omega
   clear B C d;generalize l[k]=p at*;obtain⟨K,n,t,v⟩:=p;simp only at y D E
   by_cases j:300<t.size
   ·have F:(300:Int)<(t.size:Int):=by omega
    clear j;go_wp2;go_ret;exact Y0 g.o
   have F:(t.size:Int)<=300:=by omega
   by_cases u:300<v.size
   ·have G:(300:Int)<(v.size:Int):=by omega
    clear j u;go_wp2;go_ret;exact Y0 g.o
   have G:(v.size:Int)<=300:=by omega
   have s:Hid (∀q∈l.take (k+1),q.text.size<=300/\q.value.size<=300):=aa (by
    rw[y.o];intro q f;rcases cj.1 f with f| f
    ·exact x.o q f
    ·rw[gA.1 f];exact⟨by show t.size<=300;omega,by show v.size<=300;omega⟩)
   have m:=aa a;clear j u a I;go_wp2
   go_roundw
   case rel=>exact⟨k+1,m.o,by first| rw[r] | rfl,s.o,g.o⟩
   case measure=>(first| rw[r] | skip);(first| simp only[intOf,dN] | simp[intOf]);have:=m.o;omega
  ·obtain rfl:k=l.length:=by omega
   have s:Hid (decide ((l.length:Int)<=30)=true->Ig l=true):=aa (fun h=>by
    have j:l.length<=30:=by have:=aR h;omega
    have u:=aaa l (by have:=x.o;rwa[GK]at this);rw[Ig,au (show l.length<=1010 by omega),au (show wt l<=140000 by omega)];rfl)
   clear a;go_wp2;go_ret;exact aae _ s.o g.o
theorem aaj:∀(l:List Fi),(∀f∈l,f.topic.size<=2000)->ft l<=l.length*2000
 | [],_=>by simp[ft]
 | p :: l,h=>by
   have h1:=aaj l (fun q a=>h q (kV _ a));have b:=h p (by simp);simp[ft]at h1⊢;omega
theorem ZJ{p:Pk}(ht:∀f∈p.filters,f.topic.size<=2000)(h:p.topic.size<=2000/\p.payload.size<=2000/\p.client.size<=2000/\p.user.size<=2000/\p.pass.size<=2000/\p.will.topic.size<=2000/\p.will.payload.size<=2000)(hc:p.codes.length<=30)(hf:p.filters.length<=30)(h1:Ig p.props=true)(h2:Ig p.will.props=true):Ie p=true:=by
 obtain⟨b,c,d,e,g,i,j⟩:=h;have a:=aaj p.filters ht;unfold Ie;rw[h1,h2,au (show p.codes.length<=60 by omega),au (show p.filters.length<=60 by omega),au (show szK p+ft p.filters<=140000 by unfold szK;omega)];rfl
theorem aav(p:Pk)(h:Hs)(w:World)(ip:PkIn w w.heap.size p h)(ok:PkOk p):
  Calls prog 16 #[pkV p h] w (abk (Ie p=true) w):=by
 have L:=aa ip;have U:=aa ok;clear ip ok
 have ag:=aa ((aq w.heap.size w).alloc (ac _) (.cells (pkC p h) PkT));have ai:=aa (Bk.fresh w PkT (pkC p h));have HF:=aa U.o.len.2.2.1;go_enter func16,ntmps16;go_wp2
 go_loopw [3] (fun i wr=>∃k:Nat,k<=p.filters.length/\k<=31/\i= .int .i64 k/\(∀f∈p.filters.take k,f.topic.size<=2000)/\Below w.heap.size w wr/\Bk wr w.heap.size PkT (pkC p h)) (fun i _=>p.filters.length- (intOf i).toNat)
 case atStart=>exact⟨0,by omega,by omega,rfl,by simp,ag.o,ai.o⟩
 case round=>
  obtain⟨k,hk,r,rfl,C,l,I⟩:=hrel;have K:=aa C;have d:=aa l;have G:=aa I
  have aD:=aa (And.intro hk r);clear C I;have kc:=fun i=>G.o.cell i
  by_cases g:k<p.filters.length/\k<31
  ·obtain⟨g,E⟩:=g;obtain⟨b,o,hA,j,c0,c1,c2,c3,c4⟩:=((L.o.below l).filters).atF g;have HT:Hid (p.filters.take (k+1)=p.filters.take k++[p.filters[k]]):=aa (fE g);have b1:(0:Int)<=(k:Int):=by omega
   have b2:(k:Int)<(p.filters.length:Int):=by omega
   have b3:(k:Int)<31:=by omega
   have s:=aa (And.intro g E);have J:wrap64 ((k:Int)+1)=((k+1:Nat):Int):=by unfold wrap64;omega
   clear c1 c2 c3 c4;generalize p.filters[k]=f at*;clear l g E hk r
   by_cases n:2000<f.topic.size
   ·have t:(2000:Int)<(f.topic.size:Int):=by omega
    clear n;go_wp2;go_ret;exact Y0 d.o
   have t:(f.topic.size:Int)<=2000:=by omega
   have HX:Hid (∀f∈p.filters.take (k+1),f.topic.size<=2000):=aa (by
    rw[HT.o];intro q F;rcases cj.1 F with F| F
    ·exact K.o q F
    ·rw[gA.1 F];omega)
   clear n;go_wp2
   go_roundw
   case rel=>exact⟨k+1,s.o.1,s.o.2,by first| rw[J] | rfl,HX.o,d.o,G.o⟩
   case measure=>(first| rw[J] | skip);(first| simp only[intOf,dN] | simp[intOf]);have:=s.o;omega
  ·have HE:Hid (p.filters.length<=30->∀f∈p.filters,f.topic.size<=2000):=aa (fun aE=>by
    have ao:k=p.filters.length:=by omega
    have:=K.o;rw[ao,GK]at this;exact this)
   have hx:((p.filters.length:Int)<=(k:Int))\/(((k:Int)<(p.filters.length:Int))/\(31:Int)<=(k:Int)):=by omega
   clear g hk r l K;rcases hx with e1| ⟨e1,e2⟩
   focus
    go_upto_region 6 with fail
    by_cases u:2000<p.topic.size
    ·have V:(2000:Int)<((p.topic.size:Nat):Int):=by omega
     clear u;go_wp2;go_ret;exact Y0 d.o
    have V:((p.topic.size:Nat):Int)<=2000:=by omega
    have M:Hid (p.topic.size<=2000):=aa (by omega);clear u
    by_cases n:2000<p.payload.size
    ·have t:(2000:Int)<((p.payload.size:Nat):Int):=by omega
     clear n;go_wp2;go_ret;exact Y0 d.o
    have t:((p.payload.size:Nat):Int)<=2000:=by omega
    have N:Hid (p.payload.size<=2000):=aa (by omega);clear n
    by_cases v:2000<p.client.size
    ·have W:(2000:Int)<((p.client.size:Nat):Int):=by omega
     clear v;go_wp2;go_ret;exact Y0 d.o
    have W:((p.client.size:Nat):Int)<=2000:=by omega
    have O:Hid (p.client.size<=2000):=aa (by omega);clear v
    by_cases x:2000<p.user.size
    ·have X:(2000:Int)<((p.user.size:Nat):Int):=by omega
     clear x;go_wp2;go_ret;exact Y0 d.o
    have X:((p.user.size:Nat):Int)<=2000:=by omega
    have P:Hid (p.user.size<=2000):=aa (by omega);clear x
    by_cases y:2000<p.pass.size
    ·have Y:(2000:Int)<((p.pass.size:Nat):Int):=by omega
     clear y;go_wp2;go_ret;exact Y0 d.o
    have Y:((p.pass.size:Nat):Int)<=2000:=by omega
    have Q:Hid (p.pass.size<=2000):=aa (by omega);clear y
    by_cases z:2000<p.will.topic.size
    ·have Z:(2000:Int)<((p.will.topic.size:Nat):Int):=by omega
     clear z;go_wp2;go_ret;exact Y0 d.o
    have Z:((p.will.topic.size:Nat):Int)<=2000:=by omega
    have R:Hid (p.will.topic.size<=2000):=aa (by omega);clear z
    by_cases A:2000<p.will.payload.size
    ·have d6:(2000:Int)<((p.will.payload.size:Nat):Int):=by omega
     clear A;go_wp2;go_ret;exact Y0 d.o
    have d6:((p.will.payload.size:Nat):Int)<=2000:=by omega
    have S:Hid (p.will.payload.size<=2000):=aa (by omega);clear A
    by_cases B:30<p.codes.length
    ·have d7:(30:Int)<((p.codes.length:Nat):Int):=by omega
     clear B;go_wp2;go_ret;exact Y0 d.o
    have d7:((p.codes.length:Nat):Int)<=30:=by omega
    have T:Hid (p.codes.length<=30):=aa (by omega);clear B
    by_cases h8:30<p.filters.length
    ·have d8:(30:Int)<((p.filters.length:Nat):Int):=by omega
     clear h8;go_wp2;go_ret;exact Y0 d.o
    have d8:((p.filters.length:Nat):Int)<=30:=by omega
    have N8:Hid (p.filters.length<=30):=aa (by omega);clear h8
    go_wp2_with fail
    refine(ZA p.props h.props.a h.props.c _ ((L.o.below d.o).wider d.o.size).props U.o.len.2.2.2).mono ?_;rintro e w1 ⟨b1,rfl,D,j⟩;have m:=aa (Yf d.o j);have aj:=aa (Yh G.o j)
    clear j kc;have kc:=fun i=>aj.o.cell i;cases b1
    ·clear D;go_wp2;go_ret;exact Y0 m.o
    have P1:=aa (D rfl);clear D
    go_wp2_with fail
    refine(ZA p.will.props h.wp.a h.wp.c _ ((L.o.below m.o).wider m.o.size).wp U.o.len.1).mono ?_;rintro e w2 ⟨b2,rfl,H,j⟩;have ah:=aa (Yf m.o j);have P2:=aa H;clear j H kc;go_wp2;go_ret;exact aae _ (fun j=>ZJ (HE.o N8.o) ⟨M.o,N.o,O.o,P.o,Q.o,R.o,S.o⟩ T.o N8.o P1.o (P2.o j)) ah.o
   focus
    go_upto_region 6 with fail
    by_cases u:2000<p.topic.size
    ·have V:(2000:Int)<((p.topic.size:Nat):Int):=by omega
     clear u;go_wp2;go_ret;exact Y0 d.o
    have V:((p.topic.size:Nat):Int)<=2000:=by omega
    have M:Hid (p.topic.size<=2000):=aa (by omega);clear u
    by_cases n:2000<p.payload.size
    ·have t:(2000:Int)<((p.payload.size:Nat):Int):=by omega
     clear n;go_wp2;go_ret;exact Y0 d.o
    have t:((p.payload.size:Nat):Int)<=2000:=by omega
    have N:Hid (p.payload.size<=2000):=aa (by omega);clear n
    by_cases v:2000<p.client.size
    ·have W:(2000:Int)<((p.client.size:Nat):Int):=by omega
     clear v;go_wp2;go_ret;exact Y0 d.o
    have W:((p.client.size:Nat):Int)<=2000:=by omega
    have O:Hid (p.client.size<=2000):=aa (by omega);clear v
    by_cases x:2000<p.user.size
    ·have X:(2000:Int)<((p.user.size:Nat):Int):=by omega
     clear x;go_wp2;go_ret;exact Y0 d.o
    have X:((p.user.size:Nat):Int)<=2000:=by omega
    have P:Hid (p.user.size<=2000):=aa (by omega);clear x
    by_cases y:2000<p.pass.size
    ·have Y:(2000:Int)<((p.pass.size:Nat):Int):=by omega
     clear y;go_wp2;go_ret;exact Y0 d.o
    have Y:((p.pass.size:Nat):Int)<=2000:=by omega
    have Q:Hid (p.pass.size<=2000):=aa (by omega);clear y
    by_cases z:2000<p.will.topic.size
    ·have Z:(2000:Int)<((p.will.topic.size:Nat):Int):=by omega
     clear z;go_wp2;go_ret;exact Y0 d.o
    have Z:((p.will.topic.size:Nat):Int)<=2000:=by omega
    have R:Hid (p.will.topic.size<=2000):=aa (by omega);clear z
    by_cases A:2000<p.will.payload.size
    ·have d6:(2000:Int)<((p.will.payload.size:Nat):Int):=by omega
     clear A;go_wp2;go_ret;exact Y0 d.o
    have d6:((p.will.payload.size:Nat):Int)<=2000:=by omega
    have S:Hid (p.will.payload.size<=2000):=aa (by omega);clear A
    by_cases B:30<p.codes.length
    ·have d7:(30:Int)<((p.codes.length:Nat):Int):=by omega
     clear B;go_wp2;go_ret;exact Y0 d.o
    have d7:((p.codes.length:Nat):Int)<=30:=by omega
    have T:Hid (p.codes.length<=30):=aa (by omega);clear B;have d8:(30:Int)<((p.filters.length:Nat):Int):=by omega
    clear M N O P Q R S T;go_wp2;go_ret;exact Y0 d.o
end
end Go.Proofs.YtemooicddjimbaaGreatDoor
