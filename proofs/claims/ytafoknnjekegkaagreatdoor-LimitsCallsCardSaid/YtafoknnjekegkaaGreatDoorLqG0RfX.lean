/- Parts: RfX. -/
import Derived.Test.YtafoknnjekegkaaGreatDoorLqG0MRft
set_option maxRecDepth 10000
set_option maxHeartbeats 8000000
namespace Go.Proofs.YtafoknnjekegkaaGreatDoor
open Go.RowKit Go.Proofs.Tryz
section
structure RK (w:abP) (g gp gc:Nat) (k i c:Int) (l:List Pr) (A:Option Addr) (n:Nat) (t:abO) (a:Nat) (e:Int) (x:abP):Prop where
 kept:abQ w x
 res:Bk x g PkT (pkC pk0 hs0)
 pk:Bk x gp PkT (pkC (aP k i c l) {hs0 with props:=⟨A,n⟩})
 cur:IC x gc t a e
 rd:Rd x x.heap.size 4 A l.length (prs l)
 cap:l.length<=n
 ne:g≠gp/\g≠gc/\gp≠gc
 base:w.heap.size<=g/\w.heap.size<=gp/\w.heap.size<=gc
section
variable {w x y:abP} {g gp gc:Nat} {k i c:Int} {l:List Pr} {A:Option Addr} {n:Nat} {t:abO} {a a':Nat} {e e':Int}
theorem RK.below(h:RK w g gp gc k i c l A n t a e x)(hb:abQ x y):RK w g gp gc k i c l A n t a e y:=
 ⟨Yf h.kept hb,Yh h.res hb,Yh h.pk hb,h.cur.below hb,(h.rd.below hb).wider hb.size,h.cap,h.ne,h.base⟩
theorem RK.turn(h:RK w g gp gc k i c l A n t a e x)(hc:IC y gc t a' e')(hm:x.grownBy y (some gc)):RK w g gp gc k i c l A n t a' e' y:=
 ⟨dw h.kept hm h.kept.size h.base.2.2,h.res.mods (S:=λz=>z=gc) (qb hm rfl) h.ne.2.1,h.pk.mods (S:=λz=>z=gc) (qb hm rfl) h.ne.2.2,hc,
  (h.rd.other h.cur.1 (Io _ _ _) hm (ac _)).wider hm.size,h.cap,h.ne,h.base⟩
theorem P6{w:abP}{g:Nat}{k i c:Int}{l:List Pr}{A:Option Addr}{n:Nat}(h:Bk w g PkT (pkC (aP k i 0 []) hs0)):Bk ((w.setCell ⟨g,21,.none⟩ (.int .i64 c)).setCell ⟨g,24,.none⟩ (.slice A l.length n)) g PkT (pkC (aP k i c l) {hs0 with props:=⟨A,n⟩}):=
 (h.upd 21 (.int .i64 c) (td k i 0 c [] hs0)).upd 24 _ (uT k i c [] l A n hs0)
theorem RK.put(h:RK w g gp gc k i 0 [] Option.none 0 t a e x){A':Option Addr}{n':Nat}{l':List Pr}{c':Int}(hr:Rd x x.heap.size 4 A' l'.length (prs l'))(hn:l'.length<=n'):
  RK w g gp gc k i c' l' A' n' t a e ((x.setCell ⟨gp,21,.none⟩ (.int .i64 c')).setCell ⟨gp,24,.none⟩ (.slice A' l'.length n')):=by
 have b:=(YR x gp 21 (.int .i64 c')).trans (YR _ gp 24 (.slice A' l'.length n'));exact⟨dw h.kept b h.kept.size h.base.2.1,(h.res.other h.ne.1 _).other h.ne.1 _,P6 h.pk,⟨(h.cur.1.other (Ne.symm h.ne.2.2) _).other (Ne.symm h.ne.2.2) _,h.cur.2⟩,(hr.other h.pk (dY _ _) b (ac _)).wider b.size,hn,h.ne,h.base⟩
theorem RK.stay(h:RK w g gp gc k i c l A n t a e x)(hm:Mods (λz=>z=gc) x y):PkIn y y.heap.size (aP k i c l) {hs0 with props:=⟨A,n⟩}:=
 qs ((h.rd.other h.cur.1 (Io _ _ _) hm.grown (ac _)).wider hm.size) h.cap k i c
theorem RK.drewN(h:RK w g gp gc k i c l A n t a e x)(m:Nat):RK w g gp gc k i c l A n t a e (x.drewN m):=h.below (aV (aq _ _) m)
theorem RK.done{r:Pk×Int}{kk:Hs}(h:RK w g gp gc k i c l A n t a e x)(_hi:PkIn y y.heap.size r.1 kk)(hm:x.grownBy y (some gc))(hst:∀z,y.grownBy z (some g)->PkIn z z.heap.size r.1 kk):
  abQ w (dE y g r.1 kk)/\Bk (dE y g r.1 kk) g PkT (pkC r.1 kk)/\PkIn (dE y g r.1 kk) (dE y g r.1 kk).heap.size r.1 kk:=
 ⟨YQ (dw h.kept hm h.kept.size h.base.2.2) (aC h.kept.size hm.size) h.base.1 _ _,cO (h.res.mods (S:=λz=>z=gc) (qb hm rfl) h.ne.2.1) _ _,hst _ (cJ _ _ _ _)⟩
theorem RK.into(h:RK w g gp gc k i c l A n t a e x):PkIn x x.heap.size (aP k i c l) {hs0 with props:=⟨A,n⟩}:=qs h.rd h.cap k i c
end
theorem qD{w w':abP}{g:Nat}{p:Pk}{h:Hs}{t:TypeId}{cs:Array Value}(hi:PkIn w w.heap.size p h)(h1:p.codes=[])(h2:p.filters=[])(hb:Bk w g t cs)(hcs:∀(i:Nat) (n:Int),cs[i]? ≠some (Value.int IntKind.u32 n))(hm:w.grownBy w' (some g)):PkIn w' w'.heap.size p h:=
 ⟨(hi.wp.other hb hcs hm (ac _)).wider hm.size,(hi.codes.grown hm (ac _) (λ_ _ _ a=>absurd (by rw[h1];rfl) a)).wider hm.size,
   (hi.filters.grown hm (ac _) (λ_ _ _ a=>absurd (by rw[h2];rfl) a)).wider hm.size,(hi.props.other hb hcs hm (ac _)).wider hm.size,hi.caps⟩
theorem QI{p:Pk}{t:abO}{a:Nat}{e x:Int}(h1:p.codes=[])(h2:p.filters=[]):(Qx p t a e x).1.codes=[]/\(Qx p t a e x).1.filters=[]:=by
 unfold Qx;split
 ·exact⟨rfl,rfl⟩
 ·exact⟨h1,h2⟩
theorem zu(v k:Int)(s:abO)(w:abP)(hs:s.size<=140737488351232):
  Calls prog 78 #[.int .i64 v,.int .i64 k,.string s] w (mu (iW v k s) w):=by
 have g:=aa hs;have n:=aa ((aq w.heap.size w).alloc (ac _) (.cells (pkC pk0 hs0) PkT));have o:=aa (Bk.fresh w PkT (pkC pk0 hs0));have T:=aW o.o;go_enter func78,ntmps78;go_wp2_with fail;refine(pS v _).mono ?_;rintro e w1 ⟨rfl,rfl⟩;cases D:YG v
 focus
  have U:Hid (iW v k s=(pk0,2)):=aa (by unfold iW;rw[if_pos (show pe v k=false from ah (λx=>by have h2:=Gy (show decide (v=4\/v=5)=false from D);exact h2 x.1))]);clear D
 rotate_left;by_cases Z:k<4
 focus
  have U:Hid (iW v k s=(pk0,2)):=aa (by unfold iW;rw[if_pos (show pe v k=false from ah (λx=>by omega))]);clear D
 rotate_left;have d4:decide (k<(4:Int))=false:=ah Z;by_cases h7:7<k
 focus
  have U:Hid (iW v k s=(pk0,2)):=aa (by unfold iW;rw[if_pos (show pe v k=false from ah (λx=>by omega))]);clear D Z
 rotate_left;have d7:decide ((7:Int)<k)=false:=ah h7;have ag:Hid (pe v k=true):=aa (au ⟨aR (show decide (v=4\/v=5)=true from D),by omega,by omega⟩);have u:=aa (Ty (s:=s) ag.o);clear D Z h7 T;go_wp2_with fail;refine(QN s _ (by have:=g.o;omega)).mono ?_;rintro e w1 ⟨rfl,b,C⟩;have Q:(w.alloc (.cells (pkC pk0 hs0) PkT)).heap.size=w.heap.size+1:=by simp
 have M:=aa (Yf n.o C);have ai:=aa (Yh o.o C)
 rw[Q]at b⊢;have ae:=aa b;clear b C Q;go_wp2_with fail;refine(Qz (w.heap.size+1) 0 s 0 2 _ ae.o (by decide)).mono ?_;rintro e w2 ⟨rfl,b,h⟩;have N:=aa (dw M.o h M.o.size (by omega));have aj:=aa (ai.o.mods (S:=λz=>z=w.heap.size+1) (qb h rfl) (by omega));have E:=aa b
 have V:=aa E.o.lt;have ax:=gU s 0 0 (by omega);have J:Hid (rkQ v k s=aP k (br s 0 0 2:Nat) (rkR v k s).1 (rkR v k s).2.1):=aa rfl;have P:Hid (rkR v k s=Qu v k s (aH s 0 0 2).2.1 (aH s 0 0 2).2.2):=aa rfl;clear b h;generalize br s 0 0 2=m at*;generalize (aH s 0 0 2).2.1=a1 at*;generalize (aH s 0 0 2).2.2=e1 at*;obtain⟨f,I⟩:∃f:Int,f=(m:Int):=⟨_,rfl⟩;have hw:IntKind.i64.wrap (m:Int)=f:=by rw[I,aQ];omega
 rw[<-I]at J;clear ax I;have I3:Hid (RK w w.heap.size w2.heap.size (w.heap.size+1) k f 0 [] none 0 s a1 e1 (w2.alloc (.cells (pkC (aP k f 0 []) hs0) PkT))):=aa
  ⟨N.o.alloc N.o.size _,aj.o.alloc _,Bk.fresh _ _ _,⟨E.o.1.alloc _,E.o.2⟩,Rd.nil _ _ _ _,ac _,⟨by have:=V.o;omega,by omega,by have:=V.o;omega⟩,ac _,by have:=V.o;omega,by omega⟩
 go_wp2_with fail;rw[vS];refine(QV v k (w.heap.size+1) a1 s e1 _ I3.o.cur g.o).mono ?_;rintro e' x1 ⟨A,q,rfl,B,L,b,h⟩;rw[<-P.o]at B L b⊢;have O:Hid (PkOk (rkQ v k s)):=aa (by rw[J.o,P.o];exact Tg g.o);generalize rkR v k s=R at*;obtain⟨c,l,X,Y⟩:=R;simp only at B L b J u⊢;rw[J.o]at u O;have H:=aa (I3.o.turn b h);have W:=aa (H.o.put (c':=c) L B);have aK:=H.o.pk.free 21;have az:=H.o.pk.cell 21;have aL:=H.o.pk.free 24;have aA:=H.o.pk.cell 24;rw[YB]at az;rw[bR]at aA;clear B L b h hw;generalize aw:w2.heap.size=gp at*;clear aw;have g:=cf (W.o.pk.drewN 1);go_wp2_with fail;refine je (λw'=>(kZ (.pointer (some ⟨gp,0,none⟩))).run prog w'= .ok (pkV (aP k f c l) {hs0 with props:=⟨A,q⟩}) w') [5] (by kernel_rfl) ?_;refine Yi 0 [5] rfl g ?_;refine Yi 1 [5] rfl g ?_;refine Yi 2 [4,5] rfl g ?_;refine Yi 3 [4,5] rfl g ?_;refine Up 4 rfl (λK i=>?_);go_simp;go_at_call 122;refine Yg (IZ v (aP k f c l) _ _ (W.o.drewN 1).into O.o) λz1 C=>?_;have j:=aa ((W.o.drewN 1).below C);clear C g
 have g:=cf j.o.pk;go_simp;refine i.out _ _ (λ_=>g) ?_;clear i K;refine Up 5 rfl (λK i=>?_);go_simp;go_at_call 115;refine(QF (w.heap.size+1) X s Y (eS v (aP k f c l)) (aP k f c l) {hs0 with props:=⟨A,q⟩} _ j.o.cur (λy h=>j.o.stay h)).mono ?_;rintro e' z2 ⟨kk,rfl,hi,h⟩;go_simp;refine i.out _ _ (λhn=>absurd (hn 5 (by simp)) (by decide)) (mc (d:=5) (by simp) _ _ _ _ (by kernel_rfl) ?_);clear i K g;have G:=aa (QI (p:=aP k f c l) (t:=s) (a:=X) (e:=Y) (x:=eS v (aP k f c l)) rfl rfl);obtain⟨R,hR⟩:∃R,Qx (aP k f c l) s X Y (eS v (aP k f c l))=R:=⟨_,rfl⟩;rw[hR]at hi u G⊢;clear hR;have an:Hid (∀y,z2.grownBy y (some w.heap.size)->PkIn y y.heap.size R.1 kk):=aa (λy hy=>qD hi G.o.1 G.o.2 (j.o.res.mods (S:=λz=>z=w.heap.size+1) (qb h rfl) (by omega)) (dY _ _) hy);have F:=aa (j.o.done (r:=R) hi h an.o);have T:=aW (j.o.res.mods (S:=λz=>z=w.heap.size+1) (qb h rfl) j.o.ne.2.1);refine Yj 6 rfl ?_;refine Yj 7 rfl ?_;refine Uq 8 rfl (λK i=>?_);go_simp;refine i.out _ _ ?_;clear i K;refine Uq 9 rfl (λK i=>?_);go_simp;refine i.out _ _ ?_;clear i K;refine QB (by kernel_rfl) ?_ _;go_wp2;refine abZ (aI rfl _ rfl F.o.2.1) rfl ?_;rw[u.o];exact⟨kk,rfl,F.o.2.2,F.o.1⟩
 all_goals
  go_wp2;refine abZ (aI rfl _ rfl (cO o.o _ _)) rfl ?_;exact YY U.o (YQ n.o n.o.size (ac _) _ _)
end
