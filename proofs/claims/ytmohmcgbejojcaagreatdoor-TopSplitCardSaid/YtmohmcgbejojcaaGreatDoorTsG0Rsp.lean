/- Parts: Rsp, SsA, SsB, SsC, SsD, SsE, SsF. -/
import Derived.Test.YtmohmcgbejojcaaGreatDoorTsG0MSubX
import Derived.Laws.EntriesVeiled
set_option maxRecDepth 10000
set_option maxHeartbeats 8000000
namespace Go.Proofs.YtmohmcgbejojcaaGreatDoor
open Go.RowKit Go.Proofs.Tryz
variable {p q:Pk}{w:abP}{h:Hs}{g i:Nat}{pr kd:Int}{v:Value}
section
attribute [local go_sem ↓] xS
attribute [local go_sem] um
theorem J9(v mp md:Int)(s:abO)(w:abP)(hs:s.size<=10000000000):Calls prog 6 #[.int .i64 v,zW mp md,.string s] w (Vs (lmS v mp md s) w):=by
 have HS:=aa hs;have Q:=aa ((aq w.heap.size w).alloc (ac _) (.cells #[.int .i64 mp,.int .i64 md] 23));have u:=aa (Bk.fresh w 23 #[.int .i64 mp,.int .i64 md]);have X:=aa (λW=>ZG mp md W);have aJ:Hid (YG v=decide (v=4\/v=5)):=aa rfl;obtain⟨t,p⟩:∃R,lmS v mp md s=R:=⟨_,rfl⟩;rw[p];have Y:=aa p;unfold zW at*;clear hs p;go_enter func6,ntmps6;go_upto_region 1 with fail
 go_cut [21] (λz j=>z= .bool (!nF v mp md)/\abQ w j/\Bk j w.heap.size 23 #[.int .i64 mp,.int .i64 md])
 case first=>
  have K:(w.alloc (.cells #[.int .i64 mp,.int .i64 md] 23)).cell? ⟨w.heap.size,0,none⟩=some (.int .i64 mp):=u.o.cell 0;have aC:(w.alloc (.cells #[.int .i64 mp,.int .i64 md] 23)).cell? ⟨w.heap.size,1,none⟩=some (.int .i64 md):=u.o.cell 1;go_wp2_with fail;refine(pS v _).mono ?_;rintro e m ⟨rfl,rfl⟩;cases V:YG v
  ·have i:Hid (nF v mp md=false):=aa (by unfold nF;rw[V];rfl);clear V;go_wp2;go_meet
   case rel=>exact⟨by rw[i.o];rfl,Q.o,u.o⟩
  have i:Hid (nF v mp md=(lmE mp md==0)):=aa (by
   unfold nF;rw[V,aL];cases hd:decide (16<=mp/\mp<=1048576/\0<=md/\md<=32)
   ·rw[aa0 hd];rfl
   ·rw[aaI hd];rfl)
  clear V;go_wp2_with fail;refine Yg (X.o _) λm hb=>?_;have b:=aa (Yf Q.o hb);have r:=aa (Yh u.o hb);clear hb K aC;go_wp2;go_meet
  case rel=>exact⟨by rw[i.o];simp[bne],b.o,r.o⟩
 obtain⟨rfl,ad,ah⟩:=hcut;obtain⟨m,a4⟩:∃x,x=wc:=⟨_,rfl⟩;subst a4;have b:=aa ad;have r:=aa ah
 clear ad ah Q u X aJ;by_cases d:nF v mp md=true;rotate_left
 ·have i:Hid (t=([],0,2)):=aa (by rw[<-Y.o];exact XQ d s);have aM:Hid (RowI w m none 0 0 []):=aa (RowI.start w m);rw[Bool.eq_false_iff.2 d];clear d;go_wp2;go_ret3;exact UE aM.o b.o (a:=0) i.o.symm (ag _)
 have h:=Yb d s;have HM:Hid (16<=mp/\mp<=1048576):=aa (by
  rw[WM,eh]at d;have:=aR d.2;omega)
 rw[Y.o]at h;have an:Hid (t=((smG v mp (s.extract 0 s.size) 0 0 []).1,(smG v mp (s.extract 0 s.size) 0 0 []).2.2.1,(smG v mp (s.extract 0 s.size) 0 0 []).2.2.2.2)):=aa (by
  rw[show s.extract 0 s.size=s from eX (by rw[Y9];rfl)];exact h)
 have aN:=aa (fun(a:Nat) W=>Ry v mp md (s.extract a s.size) W (by rw[aj];have:=HS.o;omega));rw[d];clear h d;go_wp2
 go_loopw [9,10] (λlv zv wr=>SpL m v mp s t lv zv wr) (λ_ zv _=>s.size+1- (intOf zv).toNat)
 case atStart=>exact⟨none,0,0,[],0,rfl,rfl,RowI.start m m,aq _ _,ac _,ag _,an.o⟩
 case round=>
  obtain⟨A,n,c,L,a,rfl,rfl,hI,hB,h1,h2,hF⟩:=hrel;have I0:=aa hI;have B0:=aa hB;have HN:=aa h1;have HA:=aa h2
  obtain⟨⟨P,q,E⟩,hR⟩:∃R,smN v mp (s.extract a s.size)=R:=⟨_,rfl⟩;have l:=aa (XN hF hR);have B:=aa (aN.o a);rw[hR]at B;have k:=aa (Yh r.o hB);clear hI hB h1 h2 hF hR;have b1:(0:Int)<=(a:Int):=by omega
  have b2:(a:Int)<=(s.size:Int):=by have:=HA.o;omega
  have c0:=k.o.cell 0;have c1:=k.o.cell 1;have a1:=(k.o.alloc (.cells (pkC pk0 hs0) PkT)).cell 1;have a0:=(k.o.alloc (.cells (pkC pk0 hs0) PkT)).cell 0;simp only[ay,aB,aE]at c0 a0 c1 a1;go_upto_region 5 with fail
  go_cut [11,12,13] (λpz nz ez j=>XM wr (P,q,E) pz nz ez j)
  case first=>
   go_region_law ((go_simp;go_at_call 20;refine(B.o _).mono ?_;rintro e w3 ⟨f,rfl,I,D,G⟩;(first| (have bc:=by(with_reducible exact(WR I D G).1)) | skip);(first| (have ai:=by(with_reducible exact(WR I D G).2)) | (have ai:=by(with_reducible exact Xn I D G)))))
   all_goals
    go_wp2;go_meet
    case rel=>with_reducible exact ai
  obtain⟨f,g,rfl,rfl,rfl,hg,J,af,F,ae⟩:=hcut;obtain⟨j,a5⟩:∃x,x=wc:=⟨_,rfl⟩;subst a5;have KX:=aa J;have IX:=aa af;have FX:=aa ae
  have I1:=aa (I0.o.below F);have N:=aa (Yf B0.o F);have K:(kZ (.pointer (some ⟨g,0,none⟩))).run prog j= .ok (pkV P f) j:=cf J;have C:Hid (n<=10000000000):=aa (by have:=HN.o;have:=HA.o;have:=HS.o;omega);clear hg J af F ae c0 a0 c1 a1 b1 b2 B k;dsimp only at IX FX;by_cases y:E=3
  ·have i:=aa (l.o.1 y);subst y;go_wp2;go_ret3;exact UE (I1.o.wide2 b.o.size) (Yf b.o N.o) i.o.symm C.o
  by_cases U:E=0;rotate_left
  ·have i:=aa (l.o.2.1 U y);have e3:(E==3)=false:=ar.2 y;have e0:(E !=0)=true:=aA.2 U;clear y U l;go_wp2;go_ret3;exact UE (I1.o.wide2 b.o.size) (Yf b.o N.o) i.o.symm C.o
  subst U;obtain⟨hq,Z⟩:=l.o.2.2 rfl;have S:Hid (2<=q/\a+q<=s.size):=aa (by have:=HA.o;omega);have aI:Hid (t=((smG v mp (s.extract (a+q) s.size) (a+q) (n+1) ((L++[(P,f)]).map Prod.fst)).1,(smG v mp (s.extract (a+q) s.size) (a+q) (n+1) ((L++[(P,f)]).map Prod.fst)).2.2.1,(smG v mp (s.extract (a+q) s.size) (a+q) (n+1) ((L++[(P,f)]).map Prod.fst)).2.2.2.2)):=aa (by
   rw[Ii];exact Z)
  have T:=aa (I1.o.below ((aq _ _).alloc (ac _) (.cells (pkC P f) PkT)));have O:=aa (N.o.alloc N.o.size (.cells (pkC P f) PkT));have P3:=aa (IX.o.next ((aq _ _).alloc (ac _) (.cells (pkC P f) PkT)));have R3:=aa (Fs j P f (g:=j.heap.size) rfl);have aw:wrap64 ((a:Int)+(q:Int))=((a+q:Nat):Int):=by have:=HS.o;have:=S.o;unfold wrap64;omega
  have am:Hid (n+1<=100000000000):=aa (by have:=C.o;omega);clear y l hq Z;go_wp2_with (at_builtin;refine oE rfl (.tmp 41) (.tmp 43) rfl (w0:=m) (A:=A) (n:=n) (c:=c) (L:=L) rfl T.o.row O.o.size _ [(P,f)] 1 1 _ rfl rfl (by decide) R3.o am.o ?_;intro g' c' w3 M H ab a3);have I4:=aa (T.o.more M H ab (λx hx=>by rw[gA.1 hx];exact P3.o) (λx hx g o e=>by rw[gA.1 hx];exact FX.o.apart (I0.o.row.block e).2));have B4:=aa (kz O.o H O.o.size (λg hg=>(T.o.row.own hg).1));clear M H ab a3 T O P3 R3 K;go_wp2;go_roundw
  case rel=>exact⟨_,_,_,_,_,⟨some ⟨g',0,none⟩,n+1,c',L++[(P,f)],a+q,rfl,by rw[Int.natCast_add],I4.o,B4.o,by have:=HN.o;have:=S.o;omega,S.o.2,aI.o⟩,rfl,rfl,rfl,rfl,rfl⟩
  case measure=>
   first| rw[aw] | rw[<-Int.natCast_add]
   simp only[intOf,dN];have:=S.o;omega
end
section
def Zi(u:Value):Prop:=∃a c,u= .slice a 0 c
theorem Z4{P:Program}{t ety:TypeId}(ht:P.underlying t=some (.slice ety))(hi:(P.info? ety).isSome=true)(A:Option Addr)(n c:Nat)(hn:n<=c)(X:Option Addr)(cx:Nat)(ty:TypeId)(w:abP):
  (Builtin.append_ #[t,t] ty #[.slice A n c,.slice X 0 cx]).run P w= .ok (.slice A n c) w:=by
 obtain⟨i,hi⟩:=Option.isSome_iff_exists.1 hi;cases X<;>cases A<;>simp[Builtin.append_,run_underlying ht,sizeOf,typeInfo,hi,Builtin.lenOf,Builtin.firstCells,hn,loadCells,loadCellsFrom,storeCells]
theorem Zk{P:Program}{w:abP}{ops:Array Oper}{rest:List Oper}{o:Oper}{a:Act}{Q:Exit->Act->abP->Prop}(hgd:o.guard=none)(s x:Operand)(t ety:TypeId)
  (ho:o.op= .call {callee:=.builtin .append,args:=#[s,x],argTypes:=#[t,t]})(ht:P.underlying t=some (.slice ety))(hi:(P.info? ety).isSome=true)
  {A X:Option Addr}{n c cx:Nat}(hs:a.eval s= .slice A n c)(hn:n<=c)(hx:a.eval x= .slice X 0 cx)(h:wpList P ops Q rest (a.put o.dst (.slice A n c)) w):wpList P ops Q (o :: rest) a w:=by
 refine Y6 hgd λ_ b=>?_;unfold Oper.wp execOp;simp only[ho,resolve,invoke,builtin,Sem.run_bind,Sem.run_pure,ik,kD,fI,gC,hs,hx,Z4 ht hi A n c hn X cx];exact b _ _ h
theorem aaq(a:Option Addr)(c:Nat)(w:abP):Calls prog 415 #[.slice a 0 c] w λe w'=>∃u,e= .returned u/\Zi u/\abQ w w':=by
 cases a with
 | none=>
   have d:(binOp BinOp.eql 24 (.slice none 0 c) (.slice none 0 0)).run prog w= .ok (.bool true) w:=by kernel_rfl
   go_enter func415,ntmps415;go_wp2;go_ret;exact⟨_,rfl,⟨_,_,rfl⟩,aq _ _⟩
 | some ad=>
   have d:(binOp BinOp.eql 24 (.slice (some ad) 0 c) (.slice none 0 0)).run prog w= .ok (.bool false) w:=by kernel_rfl
   have b:=aa ((aq w.heap.size w).alloc (ac _) (.cells #[] 3));go_enter func415,ntmps415;go_wp2_with (at_builtin;refine Zk rfl (.tmp 5) (.tmp 6) 24 3 rfl underlying24 (by kernel_rfl) rfl (ac _) rfl ?_);go_wp2;go_ret;exact⟨_,rfl,⟨_,_,rfl⟩,b.o⟩
theorem aar(a:Option Addr)(c:Nat)(w:abP):Calls prog 416 #[.slice a 0 c] w λe w'=>∃u,e= .returned u/\Zi u/\abQ w w':=by
 cases a with
 | none=>
   have d:(binOp BinOp.eql 47 (.slice none 0 c) (.slice none 0 0)).run prog w= .ok (.bool true) w:=by kernel_rfl
   go_enter func416,ntmps416;go_wp2;go_ret;exact⟨_,rfl,⟨_,_,rfl⟩,aq _ _⟩
 | some ad=>
   have d:(binOp BinOp.eql 47 (.slice (some ad) 0 c) (.slice none 0 0)).run prog w= .ok (.bool false) w:=by kernel_rfl
   have b:=aa ((aq w.heap.size w).alloc (ac _) (.cells #[] 112));go_enter func416,ntmps416;go_wp2_with (at_builtin;refine Zk rfl (.tmp 5) (.tmp 6) 47 112 rfl underlying47 (by kernel_rfl) rfl (ac _) rfl ?_);go_wp2;go_ret;exact⟨_,rfl,⟨_,_,rfl⟩,b.o⟩
theorem Zy(a:Option Addr)(c:Nat)(w:abP):Calls prog 411 #[.slice a 0 c] w λe w'=>∃u,e= .returned u/\Zi u/\abQ w w':=by
 cases a with
 | none=>
   have d:(binOp BinOp.eql 44 (.slice none 0 c) (.slice none 0 0)).run prog w= .ok (.bool true) w:=by kernel_rfl
   go_enter func411,ntmps411;go_wp2;go_ret;exact⟨_,rfl,⟨_,_,rfl⟩,aq _ _⟩
 | some ad=>
   have d:(binOp BinOp.eql 44 (.slice (some ad) 0 c) (.slice none 0 0)).run prog w= .ok (.bool false) w:=by kernel_rfl
   have b:=aa ((aq w.heap.size w).alloc (ac _) (.cells #[] 116));go_enter func411,ntmps411;go_wp2_with (at_builtin;refine Zk rfl (.tmp 5) (.tmp 6) 44 116 rfl underlying44 (by kernel_rfl) rfl (ac _) rfl ?_);go_wp2;go_ret;exact⟨_,rfl,⟨_,_,rfl⟩,b.o⟩
theorem aaC(w:abP):abT 411 #[.slice none 0 0] w (.slice none 0 0):=by
 have a:(binOp BinOp.eql 44 (.slice none 0 0) (.slice none 0 0)).run prog w= .ok (.bool true) w:=by kernel_rfl
 go_enter func411,ntmps411;go_wp2;go_ret;exact⟨rfl,rfl⟩
theorem aaD(w:abP):abT 412 #[.slice none 0 0] w (.slice none 0 0):=by
 have a:(binOp BinOp.eql 61 (.slice none 0 0) (.slice none 0 0)).run prog w= .ok (.bool true) w:=by kernel_rfl
 go_enter func412,ntmps412;go_wp2;go_ret;exact⟨rfl,rfl⟩
structure NoLists (p:Pk):Prop where
 codes:p.codes=[]
 filters:p.filters=[]
 props:p.props=[]
 will:p.will.props=[]
theorem NoLists.at22(n:NoLists p)(h:Hs):(pkC p h)[22]? =some (.slice h.codes.a 0 h.codes.c):=by rw[bS,n.codes];rfl
theorem NoLists.at23(n:NoLists p)(h:Hs):(pkC p h)[23]? =some (.slice h.filters.a 0 h.filters.c):=by rw[bP,n.filters];rfl
theorem NoLists.at24(n:NoLists p)(h:Hs):(pkC p h)[24]? =some (.slice h.props.a 0 h.props.c):=by rw[bR,n.props];rfl
theorem NoLists.at19(n:NoLists p)(h:Hs):(pkC p h)[19]? =some (.slice h.wp.a 0 h.wp.c):=by rw[YL,n.will];rfl
theorem NoLists.set22(n:NoLists p)(h:Hs)(a:Option Addr)(c:Nat):(pkC p h).setIfInBounds 22 (.slice a 0 c)=pkC p {h with codes:=⟨a,c⟩}:=by unfold pkC;rw[n.codes];rfl
theorem NoLists.set23(n:NoLists p)(h:Hs)(a:Option Addr)(c:Nat):(pkC p h).setIfInBounds 23 (.slice a 0 c)=pkC p {h with filters:=⟨a,c⟩}:=by unfold pkC;rw[n.filters];rfl
theorem NoLists.set24(n:NoLists p)(h:Hs)(a:Option Addr)(c:Nat):(pkC p h).setIfInBounds 24 (.slice a 0 c)=pkC p {h with props:=⟨a,c⟩}:=by unfold pkC;rw[n.props];rfl
theorem NoLists.set19(n:NoLists p)(h:Hs)(a:Option Addr)(c:Nat):(pkC p h).setIfInBounds 19 (.slice a 0 c)=pkC p {h with wp:=⟨a,c⟩}:=by unfold pkC;rw[n.will];rfl
def CpS(w:abP)(p:Pk)(x:abP):Prop:=∃h,Bk x w.heap.size PkT (pkC p h)/\Bk x (w.heap.size+1) PkT (pkC pk0 hs0)/\abQ w x
theorem CpS.set{x:abP}{k:Hs}(e:(pkC p h).setIfInBounds i v=pkC p k)(hx:Bk x w.heap.size PkT (pkC p h)/\Bk x (w.heap.size+1) PkT (pkC pk0 hs0)/\abQ w x):CpS w p (x.setCell ⟨w.heap.size,i,none⟩ v):=
 ⟨k,hx.1.upd i v e,hx.2.1.other (p:=⟨w.heap.size,i,none⟩) (show w.heap.size+1≠w.heap.size by omega) v,dw hx.2.2 (YR x w.heap.size i v) hx.2.2.size (ac _)⟩
theorem CpS.below{x y:abP}(hx:CpS w p x)(hb:abQ x y):CpS w p y:=by
 obtain⟨h,a,b,c⟩:=hx;exact⟨h,Yh a hb,Yh b hb,Yf c hb⟩
theorem aaV{cs:Array Value}(h:cs[i]? =some v):cs.setIfInBounds i v=cs:=by
 apply Il;intro j;by_cases e:i=j
 ·subst e;have a:i<cs.size:=(cZ.1 h).1;rw[h];simp[a]
 ·rw[eK e]
theorem Bk.same{t:TypeId}{cs:Array Value}(h:Bk w g t cs)(hv:cs[i]? =some v):Bk (w.setCell ⟨g,i,none⟩ v) g t cs:=h.upd i v (aaV hv)
theorem ZN(p:Pk)(h:Hs)(hn:NoLists p)(w:abP):Calls prog 413 #[pkV p h] w λe w'=>∃k,e= .returned (pkV p k)/\abQ w w':=by
 have v:=aa hn.at22;have z:=aa hn.at23;have A:=aa hn.at24;have t:=aa hn.at19
 have q:=aa (fun(x y:abP) (b:CpS w p x) (N:abQ x y)=>b.below N);have E:=aa (fun(x:abP) (k:Hs) (a:Option Addr) (c:Nat) (b:Bk x w.heap.size PkT (pkC p k)/\Bk x (w.heap.size+1) PkT (pkC pk0 hs0)/\abQ w x)=>CpS.set (hn.set22 k a c) b);have F:=aa (fun(x:abP) (k:Hs) (a:Option Addr) (c:Nat) (b:Bk x w.heap.size PkT (pkC p k)/\Bk x (w.heap.size+1) PkT (pkC pk0 hs0)/\abQ w x)=>CpS.set (hn.set23 k a c) b);have G:=aa (fun(x:abP) (k:Hs) (a:Option Addr) (c:Nat) (b:Bk x w.heap.size PkT (pkC p k)/\Bk x (w.heap.size+1) PkT (pkC pk0 hs0)/\abQ w x)=>CpS.set (hn.set24 k a c) b);have D:=aa (fun(x:abP) (k:Hs) (a:Option Addr) (c:Nat) (b:Bk x w.heap.size PkT (pkC p k)/\Bk x (w.heap.size+1) PkT (pkC pk0 hs0)/\abQ w x)=>CpS.set (hn.set19 k a c) b);have K:Hid (CpS w p ((w.alloc (.cells (pkC p h) PkT)).alloc (.cells (pkC pk0 hs0) PkT)).drew):=aa
  ⟨h,((Bk.fresh w PkT (pkC p h)).alloc _).drewN 1,((by simpa using Bk.fresh (w.alloc (.cells (pkC p h) PkT)) PkT (pkC pk0 hs0):Bk _ (w.heap.size+1) PkT (pkC pk0 hs0))).drewN 1,aV (((aq w.heap.size w).alloc (ac _) (.cells (pkC p h) PkT)).alloc (by simp) (.cells (pkC pk0 hs0) PkT)) 1⟩
 clear hn;go_enter func413,ntmps413;go_wp2_with fail;apply Zx (CpS w p)
 ·kernel_rfl
 ·exact K.o
 focus
  intro s
  repeat (apply Zd
          focus (refine Or.inl ⟨rfl,λx b=>?_⟩;go_simp;(try with_reducible rfl);done)
          try simp only[Act.put,af,am,ak])
  apply Zz Zi
  ·rfl
  ·intro x b _;obtain⟨k,d,g,i⟩:=b;have o:=(d.cell 22).trans (v.o k);exact⟨.slice k.codes.a 0 k.codes.c,by go_simp,⟨_,_,rfl⟩⟩
  apply Zm (f:=415) (args:=#[s 1]) Zi
  ·intro x b j;obtain⟨a,c,e⟩:=(show Zi (s 1)from j 1 (by kernel_rfl));rw[e];refine(aaq a c x).mono λe y h=>?_;obtain⟨u,l,m,n⟩:=h;exact⟨u,l,m,q.o x y b n⟩
  ·rfl
  ·intro x b;go_simp
  repeat (apply Zd
          focus (refine Or.inl ⟨rfl,λx b=>?_⟩;go_simp;(try with_reducible rfl);done)
          try simp only[Act.put,af,am,ak])
  apply Zz Zi
  ·rfl
  ·intro x b _;obtain⟨k,d,g,i⟩:=b;have o:=(d.cell 23).trans (z.o k);exact⟨.slice k.filters.a 0 k.filters.c,by go_simp,⟨_,_,rfl⟩⟩
  apply Zm (f:=416) (args:=#[s 4]) Zi
  ·intro x b j;obtain⟨a,c,e⟩:=(show Zi (s 4)from j 4 (by kernel_rfl));rw[e];refine(aar a c x).mono λe y h=>?_;obtain⟨u,l,m,n⟩:=h;exact⟨u,l,m,q.o x y b n⟩
  ·rfl
  ·intro x b;go_simp
  repeat (apply Zd
          focus (refine Or.inl ⟨rfl,λx b=>?_⟩;go_simp;(try with_reducible rfl);done)
          try simp only[Act.put,af,am,ak])
  apply Zl
  ·rfl
  ·intro x b j;obtain⟨a,c,e⟩:=(show Zi (s 2)from j 2 (by kernel_rfl));rw[e];obtain⟨k,d,g,i⟩:=b;have I:=d.free 22;have o:=(d.cell 22).trans (v.o k);refine⟨x.setCell ⟨w.heap.size,22,none⟩ (.slice a 0 c),?_,E.o x k a c ⟨d,g,i⟩⟩;go_simp
  repeat (apply Zd
          focus (refine Or.inl ⟨rfl,λx b=>?_⟩;go_simp;(try with_reducible rfl);done)
          try simp only[Act.put,af,am,ak])
  apply Zl
  ·rfl
  ·intro x b j;obtain⟨a,c,e⟩:=(show Zi (s 5)from j 5 (by kernel_rfl));rw[e];obtain⟨k,d,g,i⟩:=b;have I:=d.free 23;have o:=(d.cell 23).trans (z.o k);refine⟨x.setCell ⟨w.heap.size,23,none⟩ (.slice a 0 c),?_,F.o x k a c ⟨d,g,i⟩⟩;go_simp
  apply aaE;intro x b _;have M:=aa (b.below (aV (aq _ _) 1));clear b K;go_wp2_with fail;apply Zx (CpS w p)
  ·kernel_rfl
  ·exact M.o
  focus
   intro r
   repeat (apply Zd
           focus (refine Or.inl ⟨rfl,λx b=>?_⟩;go_simp;(try with_reducible rfl);done)
           try simp only[Act.put,af,am,ak])
   apply Zz Zi
   ·rfl
   ·intro x b _;obtain⟨k,d,g,i⟩:=b;have o:=(d.cell 24).trans (A.o k);exact⟨.slice k.props.a 0 k.props.c,by go_simp,⟨_,_,rfl⟩⟩
   apply Zm (f:=411) (args:=#[r 1]) Zi
   ·intro x b j;obtain⟨a,c,e⟩:=(show Zi (r 1)from j 1 (by kernel_rfl));rw[e];refine(Zy a c x).mono λe y h=>?_;obtain⟨u,l,m,n⟩:=h;exact⟨u,l,m,q.o x y b n⟩
   ·rfl
   ·intro x b;go_simp
   repeat (apply Zd
           focus (refine Or.inl ⟨rfl,λx b=>?_⟩;go_simp;(try with_reducible rfl);done)
           try simp only[Act.put,af,am,ak])
   apply Zz Zi
   ·rfl
   ·intro x b _;obtain⟨k,d,g,i⟩:=b;have o:=(d.cell 19).trans (t.o k);exact⟨.slice k.wp.a 0 k.wp.c,by go_simp,⟨_,_,rfl⟩⟩
   apply Zm (f:=411) (args:=#[r 5]) Zi
   ·intro x b j;obtain⟨a,c,e⟩:=(show Zi (r 5)from j 5 (by kernel_rfl));rw[e];refine(Zy a c x).mono λe y h=>?_;obtain⟨u,l,m,n⟩:=h;exact⟨u,l,m,q.o x y b n⟩
   ·rfl
   ·intro x b;go_simp
   repeat (apply Zd
           focus (refine Or.inl ⟨rfl,λx b=>?_⟩;go_simp;(try with_reducible rfl);done)
           try simp only[Act.put,af,am,ak])
   apply Zl
   ·rfl
   ·intro x b j;obtain⟨a,c,e⟩:=(show Zi (r 2)from j 2 (by kernel_rfl));rw[e];obtain⟨k,d,g,i⟩:=b;have I:=d.free 24;have o:=(d.cell 24).trans (A.o k);refine⟨x.setCell ⟨w.heap.size,24,none⟩ (.slice a 0 c),?_,G.o x k a c ⟨d,g,i⟩⟩;go_simp
   repeat (apply Zd
           focus (refine Or.inl ⟨rfl,λx b=>?_⟩;go_simp;(try with_reducible rfl);done)
           try simp only[Act.put,af,am,ak])
   apply Zl
   ·rfl
   ·intro x b j;obtain⟨a,c,e⟩:=(show Zi (r 6)from j 6 (by kernel_rfl));rw[e];obtain⟨k,d,g,i⟩:=b;have I:=d.free 19;have o:=(d.cell 19).trans (t.o k);refine⟨x.setCell ⟨w.heap.size,19,none⟩ (.slice a 0 c),?_,D.o x k a c ⟨d,g,i⟩⟩;go_simp
   apply aaE;intro y O _;obtain⟨k,H,B,C⟩:=O;have P:=cf H;have Q:=aW B p k;have L:=aa (cO B p k);have J:=aa (dw C (cJ y (w.heap.size+1) p k) C.size (IT _));clear H B C;go_wp2;refine av (fz rfl _ rfl L.o) rfl ?_;exact⟨k,rfl,J.o⟩
  all_goals kernel_rfl
 all_goals kernel_rfl
abbrev EvT:TypeId:=70
def evC(pr kd:Int)(p:Pk)(h:Hs):Array Value:=#[.int .i64 pr,.int .i64 kd,.string ⟨#[]⟩,.string ⟨#[]⟩,.int .i64 0,.bool false,.bool false,.int .i64 0,.slice none 0 0,.int .i64 0,.slice none 0 0,.int .i64 0]++(pkC p h++
 #[.int .i64 0,.bool false,.int .i64 0,.bool false,.bool false,.bool false,.int .i64 0,.int .i64 0,.int .i64 0,.int .i64 0,.bool false,.int .i64 0,.int .i64 0,.int .i64 0,.string ⟨#[]⟩,.string ⟨#[]⟩,.int .i64 0,.int .i64 0,.string ⟨#[]⟩,.slice none 0 0])
def evV(pr kd:Int)(p:Pk)(h:Hs):Value:=.agg (evC pr kd p h)
def aaQ(v:Value):Sem Value:=Instr.loadAt EvT v
def abq(v:Value):Sem Value:=Instr.box EvT v
def abt(v:Array (Nat×Value)):Sem Value:=Instr.build EvT v
def abv(b:Bool)(v:Value):Sem Value:=Instr.alloc EvT b v
def aaM(a v:Value):Sem Unit:=Instr.storeAt EvT a v
def abr(v:Array (Nat×Value)):Sem Value:=Instr.buildSlice 58 1 v
theorem ZW(v:Value):Instr.loadAt EvT v=aaQ v:=rfl
theorem ZX(v:Value):Instr.box EvT v=abq v:=rfl
theorem ZY(v:Array (Nat×Value)):Instr.build EvT v=abt v:=rfl
theorem ZZ(b:Bool)(v:Value):Instr.alloc EvT b v=abv b v:=rfl
theorem ZV(a v:Value):Instr.storeAt EvT a v=aaM a v:=rfl
theorem aaG(v:Array (Nat×Value)):Instr.buildSlice 58 1 v=abr v:=rfl
theorem Y5(pr kd:Int)(p:Pk)(h:Hs):(evC pr kd p h).size=57:=by kernel_rfl
theorem aaK:(prog.info? EvT).map (·.size)=some 57:=by kernel_rfl
theorem ZC(pr kd:Int)(p:Pk)(h:Hs)(w:abP):(abq (evV pr kd p h)).run prog w= .ok (.pointer (some ⟨w.heap.size,0,none⟩)) (w.alloc (.cells (evC pr kd p h) EvT)):=by kernel_rfl
theorem ZE(w:abP):(abv true (.tuple #[])).run prog w= .ok (.pointer (some ⟨w.heap.size,0,none⟩)) (w.alloc (.cells (evC 0 0 pk0 hs0) EvT)):=by kernel_rfl
theorem ZD(pr kd:Int)(p:Pk)(h:Hs)(w:abP):(abt #[(0,.int .i64 pr),(1,.int .i64 kd),(12,pkV p h)]).run prog w= .ok (evV pr kd p h) w:=by kernel_rfl
theorem aaf(pr kd:Int)(p:Pk)(h:Hs)(w:abP):(abr #[(0,evV pr kd p h)]).run prog w= .ok (.slice (some ⟨w.heap.size,0,none⟩) 1 1) (w.alloc (.cells (evC pr kd p h) EvT)):=by kernel_rfl
theorem aaJ(hb:Bk w g EvT (evC pr kd p h)):(aaQ (.pointer (some ⟨g,0,none⟩))).run prog w= .ok (evV pr kd p h) w:=by
 unfold aaQ;have a:w.rangeAt g 0 (evC pr kd p h).toList:=λj v b=>by
  rw[bV,hb.cell]
  simpa using b
 have:=run_loadAt_mid w g 0 EvT (evC pr kd p h).toList _ a underlying70 rfl (by rw[fT,Y5];exact aaK);rw[Array.toArray_toList]at this;exact this
theorem aa3(pr kd:Int)(p:Pk)(h:Hs)(j:Nat)(hj:j<25):(evC pr kd p h)[12+j]? =(pkC p h)[j]? :=by
 unfold evC;rw[Array.getElem?_append_right (by simp),show 12+j- (#[Value.int .i64 pr,.int .i64 kd,.string ⟨#[]⟩,.string ⟨#[]⟩,.int .i64 0,.bool false,.bool false,.int .i64 0,.slice none 0 0,.int .i64 0,.slice none 0 0,.int .i64 0]).size=j by simp,Array.getElem?_append_left (by rw[bo];exact hj)]
theorem abf(hb:Bk w g EvT (evC pr kd p h)):(kZ (.pointer (some ⟨g,12,none⟩))).run prog w= .ok (pkV p h) w:=by
 unfold kZ;have b:w.rangeAt g 12 (pkC p h).toList:=λj v a=>by
  have c:j<25:=by
   have:=(YI.1 a).1
   simpa [bo]using this
  rw[hb.cell,aa3 _ _ _ _ _ c]
  simpa using a
 exact run_loadAt_mid w g 12 PkT (pkC p h).toList _ b underlying49 rfl (by rw[fT,bo];exact tk)
theorem aac(hb:Bk w g EvT (evC pr kd p h))(a n:Nat)(ha:a+n<=57):w.there g a n:=λj b=>by
 rw[hb.cell,hb.free];refine⟨?_,rfl⟩;rw[eL (by rw[Y5];omega)];rfl
theorem abi(pr kd:Int)(p:Pk)(h:Hs):(evC pr kd p h).all (·.oneCell')=true:=by simp[evC,pkC,Value.oneCell']
def aaZ(w:abP)(g:Nat)(pr kd:Int)(p:Pk)(h:Hs):abP:=w.setCells g 0 (evC pr kd p h).toList
theorem ZB{pr' kd':Int}{k:Hs}(hb:Bk w g EvT (evC pr kd p h)):(aaM (.pointer (some ⟨g,0,none⟩)) (evV pr' kd' q k)).run prog w= .ok () (aaZ w g pr' kd' q k):=by
 unfold aaM;exact run_storeAt_mid w g 0 EvT (evC pr' kd' q k) (by rw[Y5];exact aac hb 0 57 (by omega)) (by rw[Y5];exact aaK) (abi pr' kd' q k)
theorem Za(g:Nat):∀(vs:List Value) (o:Nat) (w x:abP),w.grownBy x (some g)->w.grownBy (x.setCells g o vs) (some g)
 | [],_,_,_,hx=>hx
 | v :: vs,o,w,x,hx=>Za g vs (o+1) w _ (hx.trans (YR x g o v))
theorem aaY(hb:Bk w g EvT (evC pr kd p h))(pr' kd':Int)(q:Pk)(k:Hs):Bk (aaZ w g pr' kd' q k) g EvT (evC pr' kd' q k):=by
 have:=oH (evC pr' kd' q k).toList 0 hb;rw[qa (by rw[Y5,Y5])]at this;exact this
theorem abh(pr kd:Int)(p:Pk)(h k:Hs)(i:Nat)(hi:i<12\/37<=i):(evC pr kd p h)[i]? =(evC pr kd p k)[i]? :=by
 unfold evC;rcases hi with hi| hi
 ·rw[Array.getElem?_append_left (by simpa using hi),Array.getElem?_append_left (by simpa using hi)]
 ·rw[Array.getElem?_append_right (show 12<=i by omega),Array.getElem?_append_right (by rw[bo];show 25<=i- 12;omega),Array.getElem?_append_right (show 12<=i by omega),Array.getElem?_append_right (by rw[bo];show 25<=i- 12;omega),bo,bo]
theorem abb(pr kd:Int)(p:Pk)(h k:Hs):nP (evC pr kd p h) 12 (pkC p k).toList=evC pr kd p k:=by
 apply Il;intro i;by_cases c:i<57
 ·rw[yr _ _ _ _ (by rw[Y5];exact c)];have b:(pkC p k).toList.length=25:=by rw[fT,bo]
  by_cases a:12<=i/\i<12+(pkC p k).toList.length
  ·rw[if_pos a];rw[b]at a;have:=aa3 pr kd p k (i- 12) (by omega);rw[show 12+(i- 12)=i by omega]at this;rw[this];simp
  ·rw[Fl a];rw[b]at a;exact abh pr kd p h k i (by omega)
 ·rw[Array.getElem?_eq_none (by rw[rS,Y5];omega),Array.getElem?_eq_none (by rw[Y5];omega)]
theorem aaw(hb:Bk w g EvT (evC pr kd p h))(k:Hs):(zc (.pointer (some ⟨g,12,none⟩)) (pkV p k)).run prog w= .ok () (w.setCells g 12 (pkC p k).toList)/\Bk (w.setCells g 12 (pkC p k).toList) g EvT (evC pr kd p k):=by
 refine⟨?_,?_⟩
 ·unfold zc;exact run_storeAt_mid w g 12 PkT (pkC p k) (by rw[bo];exact aac hb 12 25 (by omega)) (by rw[bo];exact tk) (yy p k)
 ·have:=oH (pkC p k).toList 12 hb;rw[abb]at this;exact this
theorem abm(hb:Bk w g EvT (evC pr kd p h)):(loadVar EvT ⟨g,0,none⟩).run prog w= .ok (evV pr kd p h) w:=by
 have a:=aaJ hb;unfold aaQ at a;generalize evV pr kd p h=V at a⊢
 simpa only[Instr.loadAt,Instr.sureAddr,Sem.run_bind,Sem.run_pure,ik]using a
theorem ZF{fn:Func}{p:Tmp}(hr:fn.results= #[.cell p EvT])(tmps:Array Value)(hp:tmps.getD p undef= .pointer (some ⟨g,0,none⟩))(hb:Bk w g EvT (evC pr kd q h)):
  (results fn tmps).run prog w= .ok (evV pr kd q h) w:=by
 have b:=abm hb;have e:(results fn tmps).run prog w=((asAddr (tmps.getD p undef)).run prog w).andThen λa c=>(loadVar EvT a).run prog c:=by
  simp only[results,hr];simp[Sem.run_bind,Result.andThen]
 rw[e,hp];generalize evV pr kd q h=V at b⊢;exact kG _ (⟨g,0,none⟩:Addr) w _ rfl |>.trans b
theorem aax{fn:Func}{p u:Tmp}(hr:fn.results= #[.cell p EvT,.tmp u])(tmps:Array Value)(hp:tmps.getD p undef= .pointer (some ⟨g,0,none⟩))(hb:Bk w g EvT (evC pr kd q h)):
  (results fn tmps).run prog w= .ok (.tuple #[evV pr kd q h,tmps.getD u undef]) w:=by
 rw[results_cell_tmp hr,hp];have a:=abm hb;generalize evV pr kd q h=V at a⊢;exact kG _ (⟨g,0,none⟩:Addr) w _ rfl |>.trans (kG _ V w _ a)
end
section
attribute [local go_sem ↓] bD bF bH bI bu ZW ZX ZY ZZ ZV
attribute [local go_sem] ZC ZE ZD
theorem aa4(pr kd:Int)(p:Pk)(h:Hs):(evC pr kd p h)[8]? =some (.slice none 0 0):=by kernel_rfl
theorem aaB(pr kd:Int)(p:Pk)(h:Hs):(evC pr kd p h)[10]? =some (.slice none 0 0):=by kernel_rfl
theorem Z7(pr kd:Int)(p:Pk)(h:Hs):(evC pr kd p h)[56]? =some (.slice none 0 0):=by kernel_rfl
structure ES (w:abP) (pr kd:Int) (p:Pk) (h k:Hs) (x:abP):Prop where
 b1:Bk x w.heap.size EvT (evC pr kd p h)
 b2:Bk x (w.heap.size+1) EvT (evC 0 0 pk0 hs0)
 b3:Bk x (w.heap.size+1+1) EvT (evC pr kd p k)
 low:abQ w x
section
variable {w x y:abP} {pr kd:Int} {p:Pk} {h k:Hs}
theorem ES.set(s:ES w pr kd p h k x)(hv:(evC pr kd p k)[i]? =some v):ES w pr kd p h k (x.setCell ⟨w.heap.size+1+1,i,none⟩ v):=
 ⟨s.b1.other (p:=⟨w.heap.size+1+1,i,none⟩) (show w.heap.size≠w.heap.size+1+1 by omega) v,s.b2.other (p:=⟨w.heap.size+1+1,i,none⟩) (show w.heap.size+1≠w.heap.size+1+1 by omega) v,s.b3.same hv,dw s.low (YR x (w.heap.size+1+1) i v) s.low.size (by omega)⟩
theorem ES.below(s:ES w pr kd p h k x)(hb:abQ x y):ES w pr kd p h k y:=⟨Yh s.b1 hb,Yh s.b2 hb,Yh s.b3 hb,Yf s.low hb⟩
theorem ES.pk(s:ES w pr kd p h h x)(k:Hs):(zc (.pointer (some ⟨w.heap.size+1+1,12,none⟩)) (pkV p k)).run prog x= .ok () (x.setCells (w.heap.size+1+1) 12 (pkC p k).toList)/\ES w pr kd p h k (x.setCells (w.heap.size+1+1) 12 (pkC p k).toList):=by
 obtain⟨b,c⟩:=aaw s.b3 k;have a:=Za (w.heap.size+1+1) (pkC p k).toList 12 x x (jy x _);exact⟨b,s.b1.app (v:=.slice (some ⟨w.heap.size+1+1,0,none⟩) 0 0) a (by simp[Value.ownBlock];omega),s.b2.app (v:=.slice (some ⟨w.heap.size+1+1,0,none⟩) 0 0) a (by simp[Value.ownBlock]),c,dw s.low a s.low.size (by omega)⟩
end
theorem Zb(w:abP)(pr kd pr' kd':Int)(p q:Pk)(h k:Hs):(aaM (.pointer (some ⟨w.heap.size,0,none⟩)) (evV pr' kd' q k)).run prog (w.alloc (.cells (evC pr kd p h) EvT))= .ok () (w.alloc (.cells (evC pr' kd' q k) EvT)):=by
 rw[ZB (Bk.fresh w EvT (evC pr kd p h))];unfold aaZ;rw[io,qa (by rw[Y5,Y5])]
attribute [local irreducible] evC
theorem aan(pr kd:Int)(p:Pk)(h:Hs)(hn:NoLists p)(w:abP):Calls prog 410 #[evV pr kd p h] w λe w'=>∃k,e= .returned (evV pr kd p k)/\abQ w w':=by
 have r:=aa hn;have t:(aaM (.pointer (some ⟨w.heap.size+1+1,0,none⟩)) (evV pr kd p h)).run prog (((w.alloc (.cells (evC pr kd p h) EvT)).alloc (.cells (evC 0 0 pk0 hs0) EvT)).alloc (.cells (evC 0 0 pk0 hs0) EvT))=
   .ok () (((w.alloc (.cells (evC pr kd p h) EvT)).alloc (.cells (evC 0 0 pk0 hs0) EvT)).alloc (.cells (evC pr kd p h) EvT)):=by
  have u:((w.alloc (.cells (evC pr kd p h) EvT)).alloc (.cells (evC 0 0 pk0 hs0) EvT)).heap.size=w.heap.size+1+1:=by simp
  have:=Zb ((w.alloc (.cells (evC pr kd p h) EvT)).alloc (.cells (evC 0 0 pk0 hs0) EvT)) 0 0 pr kd pk0 p hs0 h;rw[u]at this;exact this
 have v:(aaQ (.pointer (some ⟨w.heap.size,0,none⟩))).run prog ((w.alloc (.cells (evC pr kd p h) EvT)).alloc (.cells (evC 0 0 pk0 hs0) EvT))= .ok (evV pr kd p h) ((w.alloc (.cells (evC pr kd p h) EvT)).alloc (.cells (evC 0 0 pk0 hs0) EvT)):=aaJ ((Bk.fresh w EvT (evC pr kd p h)).alloc _);have f:Hid (ES w pr kd p h h (((w.alloc (.cells (evC pr kd p h) EvT)).alloc (.cells (evC 0 0 pk0 hs0) EvT)).alloc (.cells (evC pr kd p h) EvT))):=aa
  ⟨((Bk.fresh w EvT (evC pr kd p h)).alloc _).alloc _,(by simpa using Bk.fresh (w.alloc (.cells (evC pr kd p h) EvT)) EvT (evC 0 0 pk0 hs0):Bk _ (w.heap.size+1) EvT (evC 0 0 pk0 hs0)).alloc _,
    by simpa using Bk.fresh ((w.alloc (.cells (evC pr kd p h) EvT)).alloc (.cells (evC 0 0 pk0 hs0) EvT)) EvT (evC pr kd p h),(((aq w.heap.size w).alloc (ac _) _).alloc (by simp) _).alloc (by simp;omega) _⟩
 clear hn;go_enter func410,ntmps410;go_upto_region 2 with fail
 clear t v;generalize (((w.alloc (.cells (evC pr kd p h) EvT)).alloc (.cells (evC 0 0 pk0 hs0) EvT)).alloc (.cells (evC pr kd p h) EvT))=x0 at*;have a:x0.cell? ⟨w.heap.size,8,none⟩=some (.slice none 0 0):=(f.o.b1.cell 8).trans (aa4 _ _ _ _);have c:=f.o.b3.free 8;have d:=(f.o.b3.cell 8).trans (aa4 _ _ _ _);have g:=aa (f.o.set (aa4 pr kd p h));go_wp2_with fail;refine(aaC _).mono ?_;rintro e x ⟨rfl,rfl⟩;go_upto_region 3 with fail
 generalize (x0.setCell ⟨w.heap.size+1+1,8,none⟩ (.slice none 0 0))=x1 at*;clear a c d f;have a:x1.cell? ⟨w.heap.size,10,none⟩=some (.slice none 0 0):=(g.o.b1.cell 10).trans (aaB _ _ _ _);have c:=g.o.b3.free 10;have d:=(g.o.b3.cell 10).trans (aaB _ _ _ _);have j:=aa (g.o.set (aaB pr kd p h));go_wp2_with fail;refine(aaD _).mono ?_;rintro e x ⟨rfl,rfl⟩;go_upto_region 4 with fail
 generalize (x1.setCell ⟨w.heap.size+1+1,10,none⟩ (.slice none 0 0))=x2 at*;clear a c d g;have a:=abf j.o.b1;go_wp2_with fail;refine(ZN p h r.o _).mono ?_;rintro e y ⟨k,rfl,n⟩;have m:=aa (j.o.below n);clear n a j;obtain⟨a,o⟩:=m.o.pk k;have i:=aa o;clear o;go_upto_region 5 with fail
 generalize y.setCells (w.heap.size+1+1) 12 (pkC p k).toList=x4 at*;clear a m;have a:x4.cell? ⟨w.heap.size,56,none⟩=some (.slice none 0 0):=(i.o.b1.cell 56).trans (Z7 _ _ _ _);have c:=i.o.b3.free 56;have d:=(i.o.b3.cell 56).trans (Z7 _ _ _ _);have b:=aa (i.o.set (Z7 pr kd p k));go_upto_region 6 with fail
 generalize (x4.setCell ⟨w.heap.size+1+1,56,none⟩ (.slice none 0 0))=x5 at*;clear a c d i;have a:x5.cell? ⟨w.heap.size,56,none⟩=some (.slice none 0 0):=(b.o.b1.cell 56).trans (Z7 _ _ _ _);have c:=aaJ b.o.b3;have d:=ZB (pr':=pr) (kd':=kd) (q:=p) (k:=k) b.o.b2;have s:=aa (aaY b.o.b2 pr kd p k);have l:=aa (dw b.o.low (Za (w.heap.size+1) (evC pr kd p k).toList 0 x5 x5 (jy x5 _)) b.o.low.size (by omega));go_wp2
 go_loopw [25] (λz wr=>z= .int .i64 0/\wr=x5) (λ_ _=>0)
 case atStart=>exact⟨rfl,rfl⟩
 case round=>
  obtain⟨rfl,rfl⟩:=hrel;go_wp2;refine av (ZF rfl _ rfl s.o) rfl ?_;exact⟨k,rfl,l.o⟩
end
section
attribute [local go_sem ↓] bD bF bH bI bu ZW ZX ZY ZZ ZV aaG
attribute [local go_sem] ZC ZE ZD aaf
attribute [local irreducible] evC
theorem ZI(pr:Int)(p:Pk)(h:Hs)(w:abP):abR 408 #[.int .i64 pr,pkV p h] w (evV pr 2 p h):=by
 have a:=aa (((aq w.heap.size w).alloc (ac _) (.cells (pkC p h) PkT)).alloc (by simp) (.cells (evC pr 2 p h) EvT));have f:(kZ (.pointer (some ⟨w.heap.size,0,none⟩))).run prog ((w.alloc (.cells (pkC p h) PkT)).alloc (.cells (evC 0 0 pk0 hs0) EvT))= .ok (pkV p h) ((w.alloc (.cells (pkC p h) PkT)).alloc (.cells (evC 0 0 pk0 hs0) EvT)):=cf ((Bk.fresh w PkT (pkC p h)).alloc _);have d:(aaM (.pointer (some ⟨w.heap.size+1,0,none⟩)) (evV pr 2 p h)).run prog ((w.alloc (.cells (pkC p h) PkT)).alloc (.cells (evC 0 0 pk0 hs0) EvT))= .ok () ((w.alloc (.cells (pkC p h) PkT)).alloc (.cells (evC pr 2 p h) EvT)):=by
  have c:(w.alloc (.cells (pkC p h) PkT)).heap.size=w.heap.size+1:=by simp
  have:=Zb (w.alloc (.cells (pkC p h) PkT)) 0 0 pr 2 pk0 p hs0 h;rw[c]at this;exact this
 have b:Hid (Bk ((w.alloc (.cells (pkC p h) PkT)).alloc (.cells (evC pr 2 p h) EvT)) (w.heap.size+1) EvT (evC pr 2 p h)):=aa (by simpa using Bk.fresh (w.alloc (.cells (pkC p h) PkT)) EvT (evC pr 2 p h));go_enter func408,ntmps408;go_wp2;refine av (ZF rfl _ rfl b.o) rfl ?_;exact⟨rfl,a.o⟩
theorem abc(w:abP):abT 406 #[.int .i64 4] w (.tuple #[.int .i64 1,.bool true]):=by
 go_enter func406,ntmps406;go_wp2;go_ret2;exact⟨rfl,rfl⟩
theorem aaA(p:Pk)(h:Hs)(hn:NoLists p)(hk:p.kind≠3)(he:mqE 4 p=0)(ok:PkOk p)(w:abP)(ip:PkIn w w.heap.size p h):
  Calls prog 405 #[.int .i64 4,pkV p h] w λe w'=>∃k,e= .returned (.tuple #[evV 1 2 p k,.int .i64 0])/\abQ w w':=by
 have y:=aa hn;have C:(p.kind==3)=false:=ar.2 hk;have v:=Bk.fresh w PkT (pkC p h);have b:=aa (v.alloc (.cells (evC 0 0 pk0 hs0) EvT));have c:Hid (Bk ((w.alloc (.cells (pkC p h) PkT)).alloc (.cells (evC 0 0 pk0 hs0) EvT)) (w.heap.size+1) EvT (evC 0 0 pk0 hs0)):=aa (by simpa using Bk.fresh (w.alloc (.cells (pkC p h) PkT)) EvT (evC 0 0 pk0 hs0));have d:=aa (((aq w.heap.size w).alloc (ac _) (.cells (pkC p h) PkT)).alloc (by simp) (.cells (evC 0 0 pk0 hs0) EvT));have i:=aa (fun(x:abP) (a:abQ w x)=>Vd 4 p h x (ip.next a) ok (aaS he));rw[he]at i;clear hn hk he ok ip v;go_enter func405,ntmps405;go_wp2_with fail;refine(abc _).mono ?_;rintro e x ⟨rfl,rfl⟩;obtain⟨E,r⟩:∃x,(w.alloc (.cells (pkC p h) PkT)).alloc (.cells (evC 0 0 pk0 hs0) EvT)=x:=⟨_,rfl⟩;rw[r]at b c d⊢;clear r;have s:=cf b.o;go_wp2_with fail;refine Yg (i.o _ d.o) λB a=>?_;have j:=aa (Yh b.o a);have l:=aa (Yh c.o a);have f:=aa (Yf d.o a)
 clear a s b c d i;have A:B.cell? ⟨w.heap.size,0,none⟩=some (.int .i64 p.kind):=(j.o.cell 0).trans (cI _ _);have s:=cf j.o;go_wp2_with fail;refine Yg (ZI 1 p h _) λF a=>?_;have m:=aa (Yh l.o a);have g:=aa (Yf f.o a)
 clear a s A j l f;go_wp2_with fail;refine(aan 1 2 p h y.o _).mono ?_;rintro e t ⟨k,rfl,a⟩;have o:=aa (Yh m.o a);have n:=aa (Yf g.o a)
 clear a m g;have D:=ZB (pr':=1) (kd':=2) (q:=p) (k:=k) o.o;have z:=aa (aaY o.o 1 2 p k);have u:=aa (dw n.o (Za (w.heap.size+1) (evC 1 2 p k).toList 0 t t (jy t _)) n.o.size (by omega));go_wp2;refine av (aax rfl _ rfl z.o) rfl ?_;exact⟨k,rfl,u.o⟩
end
section
attribute [local go_sem ↓] bD bF bH bI bu ZW ZX ZY ZZ ZV aaG
attribute [local go_sem] ZC ZE ZD aaf
theorem aah(pr kd:Int)(p:Pk)(h:Hs)(w:abP):(aaQ (.pointer (some ⟨w.heap.size,0,none⟩))).run prog (w.alloc (.cells (evC pr kd p h) EvT))= .ok (evV pr kd p h) (w.alloc (.cells (evC pr kd p h) EvT)):=aaJ (Bk.fresh w EvT (evC pr kd p h))
attribute [local go_sem] aah Zb
attribute [local irreducible] evC
def aaL(w0 w:abP)(v:Value):Prop:=∃q c,v= .slice (some ⟨q,0,none⟩) 1 c/\w0.heap.size<=q/\w.cell? ⟨q,1,none⟩=some (.int .i64 2)/\w.cell? ⟨q,12,none⟩=some (.int .i64 12)
theorem aa2:(prog.info? EvT).map (λi=>(i.zero.isSome,i.size,decide (i.bytes<=100000)))=some (true,57,true):=by kernel_rfl
theorem abp(pr kd:Int)(p:Pk)(h:Hs):(evC pr kd p h)[1]? =some (.int .i64 kd):=by kernel_rfl
theorem abo(pr kd:Int)(p:Pk)(h:Hs):(evC pr kd p h)[12]? =some (.int .i64 p.kind):=by kernel_rfl
theorem aaP(hb:Bk w g EvT (evC pr kd p h))(ty:TypeId):
  ∃c w',(Builtin.append_ #[58,58] ty #[.slice none 0 0,.slice (some ⟨g,0,none⟩) 1 1]).run prog w= .ok (.slice (some ⟨w.heap.size,0,none⟩) 1 c) w'/\abQ w w'/\∀j,j<57->w'.cell? ⟨w.heap.size,j,none⟩=(evC pr kd p h)[j]? :=by
 have b:=aa2;cases a:prog.info? EvT with
 | none=>rw[a]at b;cases b
 | some i=>
   rw[a]at b;simp only[Option.map_some,aX,bG,Fx]at b;obtain⟨d,k,q⟩:=b;obtain⟨z,n⟩:=Option.isSome_iff_exists.1 d;have e:=run_append_nil (P:=prog) (w:=w) 58 ty EvT i z underlying58 a n ⟨g,0,none⟩ 1 1 (evC pr kd p h).toList (by rw[fT,Y5,k]) (λj v f=>by
    have d:=hb.cell j;rw[Array.getElem?_toList]at f;rcases dh j with rfl| o
    ·exact d.trans f
    ·rw[show(⟨g,0,none⟩:Addr).add j=⟨g,j,none⟩ by simp[Addr.add];omega];exact d.trans f) (by decide) (by decide) (by omega)
   refine⟨_,_,e,(aV (aq w.heap.size w) 1).alloc (ac _) _,λj l=>?_⟩;have m:=Bk.fresh (w.drewN 1) EvT ((evC pr kd p h).toList.toArray++Builtin.zeroCells z.cells (grownCap w 1 0 EvT- 1));have:=m.cell j;rw[Array.getElem?_append_left (by rw[Array.toArray_toList,Y5];exact l),Array.toArray_toList]at this;exact this
theorem aab{w:abP}{ops:Array Oper}{rest:List Oper}{o:Oper}{a:Act}{Q:Exit->Act->abP->Prop}(hgd:o.guard=none)(s x:Operand)
  (ho:o.op= .call {callee:=.builtin .append,args:=#[s,x],argTypes:=#[58,58]})
  {g:Nat}{pr kd:Int}{p:Pk}{h:Hs}(hs:a.eval s= .slice none 0 0)(hx:a.eval x= .slice (some ⟨g,0,none⟩) 1 1)(hb:Bk w g EvT (evC pr kd p h))
  (hK:∀c w',abQ w w'->(∀j,j<57->w'.cell? ⟨w.heap.size,j,none⟩=(evC pr kd p h)[j]?)->wpList prog ops Q rest (a.put o.dst (.slice (some ⟨w.heap.size,0,none⟩) 1 c)) w'):wpList prog ops Q (o :: rest) a w:=by
 obtain⟨c,w',b,e,f⟩:=aaP hb o.type;refine Y6 hgd λ_ d=>?_;unfold Oper.wp execOp;simp only[ho,resolve,invoke,builtin,Sem.run_bind,Sem.run_pure,ik,kD,fI,gC,hs,hx,b];exact d _ _ (hK c w' e f)
def OmL(w0 w2:abP)(ov zv:Value)(wr:abP):Prop:=(zv= .int .i64 0/\ov= .slice none 0 0/\wr=w2)\/(zv= .int .i64 1/\aaL w0 wr ov/\abQ w2 wr)
def omV(g:Nat):Value:=.agg #[.int .i64 1,.int .i64 4096,.int .i64 6,.string ⟨#[]⟩,.int .i64 4,.pointer (some ⟨g,0,none⟩)]
theorem abw:smG 4 4096 (⟨#[]⟩++⟨#[192,0]⟩) 0 0 []=([{pk0 with kind:=12}],⟨#[]⟩,2,1,0):=by decide+kernel
theorem abd:mqE 4 {pk0 with kind:=12}=0:=by decide+kernel
theorem aay(g:Nat)(w0 w:abP)(hb:Bk w g SmT (smC 4 4096 none 0 0 0 0 0))(hw:abQ w0 w)(hg:w0.heap.size<=g):
  Calls prog 402 #[omV g,.string ⟨#[192,0]⟩] w λe w'=>∃u,e= .returned (.tuple #[u,.int .i64 0])/\aaL w0 w' u/\abQ w0 w'/\∀q ty cs,q≠g->Bk w q ty cs->Bk w' q ty cs:=by
 have r:=aa hw;have HG:=aa hg
 have d:=aa ((aq w.heap.size w).alloc (ac _) (.cells #[.int .i64 1,.int .i64 4096,.int .i64 6,.string ⟨#[]⟩,.int .i64 4,.pointer (some ⟨g,0,none⟩)] 96));have f:=aa (Bk.fresh w 96 #[.int .i64 1,.int .i64 4096,.int .i64 6,.string ⟨#[]⟩,.int .i64 4,.pointer (some ⟨g,0,none⟩)]);have J:=aa (hb.alloc (.cells #[.int .i64 1,.int .i64 4096,.int .i64 6,.string ⟨#[]⟩,.int .i64 4,.pointer (some ⟨g,0,none⟩)] 96));have ao:=aa hb.lt;clear hb hw hg;unfold omV;go_enter func402,ntmps402;obtain⟨w1,H⟩:∃x,w.alloc (.cells #[.int .i64 1,.int .i64 4096,.int .i64 6,.string ⟨#[]⟩,.int .i64 4,.pointer (some ⟨g,0,none⟩)] 96)=x:=⟨_,rfl⟩;have p:=aa (d9 4 4096 g none 0 0 0 0 ⟨#[]⟩ ⟨#[192,0]⟩ w _ J.o (Kp.none w _) d.o.size (by decide) (by decide));rw[abw]at p;have L:=f.o.cell 5;have m:=f.o.cell 4;simp only[ay,aB,aE]at L m;rw[H]at d f J p L m;go_upto_region 1 with fail
 clear H;go_wp2_with fail;refine p.o.mono ?_;rintro e w2 ⟨A2,m2,ap,L2,K2,n2,c2,rfl,F⟩;obtain rfl:m2=1:=F.len;obtain⟨o,e2⟩:=tg F.map;have K:=F.row.read;rw[e2]at K;obtain⟨b',o',p',h',rfl,Z,-,M,ip⟩:=K.at (i:=0) (by simp);simp only[aB,aX,bG]at Z;obtain⟨rfl,rfl⟩:=Z;have j:=aa (Zw (Yf r.o d.o) HG.o (aC r.o.size d.o.size) (Kp.none w w1) r.o.size F.mods);have C:=aa (fun(q:Nat) (ty:TypeId) (cs:Array Value) (s:q≠g) (hb:Bk w q ty cs)=>(Yh hb d.o).mods F.mods (λx=>x.elim s (λy=>by cases y)));have X:=aa (f.o.fed (by decide) (f.o.ne J.o (by decide)) (Kp.none w w1) F.mods);have V:=aa ip;obtain⟨a,b⟩:∃q,{pk0 with kind:=12}=q:=⟨_,rfl⟩;have HE:Hid (mqE 4 a=0):=aa (by rw[<-b];exact abd);have S:Hid (NoLists a):=aa (by rw[<-b];exact⟨rfl,rfl,rfl,rfl⟩);have B:Hid (a.kind=12):=aa (by rw[<-b]);have T:Hid (PkOk a):=aa (by rw[<-b];exact Fn (v:=4) (most:=4096) (t:=⟨#[192,0]⟩) (by decide));rw[b]at M V⊢;clear F K e2 ip b p m L;simp only[jU,jV]at M;have hl:=M _ (aq _ _);dsimp only;go_wp2
 go_loopw [8,22] (λov N wr=>OmL w0 w2 ov N wr) (λ_ N _=>1- (intOf N).toNat)
 case atStart=>exact .inl ⟨rfl,rfl,rfl⟩
 case round=>
  rcases hrel with ⟨rfl,rfl,ad⟩ | ⟨rfl,E,n⟩
  ·obtain⟨x,hx⟩:∃x,wr=x:=⟨_,rfl⟩;subst ad;subst hx;have W:=aa (X.o.alloc (.cells (pkC a o) PkT));have m:(wr.alloc (.cells (pkC a o) PkT)).cell? ⟨w.heap.size,4,none⟩=some (.int .i64 4):=W.o.cell 4;have G:a.kind≠3:=by rw[B.o];decide
   have CT:=aa (aaA a o S.o G HE.o T.o (wr.alloc (.cells (pkC a o) PkT)) (V.o.next ((aq wr.heap.size wr).alloc (ac _) _)));have I:=aa ((aq wr.heap.size wr).alloc (ac _) (.cells (pkC a o) PkT));clear G;go_wp2_with fail;refine CT.o.mono ?_;rintro e y ⟨k,rfl,hb⟩;have l:=aa (Yf I.o hb);clear hb CT I m W hl;have A:=aa (by simpa using Bk.fresh (y.alloc (.cells (evC 1 2 a k) EvT)) EvT (evC 1 2 a k):Bk ((y.alloc (.cells (evC 1 2 a k) EvT)).alloc (.cells (evC 1 2 a k) EvT)) (y.heap.size+1) EvT (evC 1 2 a k));have c:=aa ((l.o.alloc l.o.size (.cells (evC 1 2 a k) EvT)).alloc (by have:=l.o.size;simp;omega) (.cells (evC 1 2 a k) EvT));go_wp2_with (at_builtin;refine aab rfl (.tmp 37) (.tmp 39) rfl rfl rfl A.o ?_;intro Y z D h);have O:=aa (Yf c.o D);have U:((y.alloc (.cells (evC 1 2 a k) EvT)).alloc (.cells (evC 1 2 a k) EvT)).heap.size=y.heap.size+1+1:=by simp
   rw[U]at h;have Q:Hid (aaL w0 z (.slice (some ⟨y.heap.size+1+1,0,none⟩) 1 Y)):=aa ⟨_,Y,rfl,by have h1:=l.o.size;have h2:=j.o.size;omega,(h 1 (by decide)).trans (abp _ _ _ _),(h 12 (by decide)).trans (by rw[abo,B.o])⟩;clear D h A c l U;go_roundw
   case rel=>exact .inr ⟨rfl,Q.o,O.o⟩
   case measure=>simp[intOf]
  ·have P:=aa E;have c:=aa (Yf j.o n);have R:=aa (fun(q:Nat) (ty:TypeId) (cs:Array Value) (s:q≠g) (hb:Bk w q ty cs)=>(C.o q ty cs s hb).below n (C.o q ty cs s hb).lt);clear E n;go_wp2;go_ret2;exact⟨_,rfl,P.o,c.o,R.o⟩
end
theorem aad(w:abP):abR 29 #[.agg #[.int .i64 4096,.int .i64 6]] w (.bool true):=by
 have b:=aa ((aq w.heap.size w).alloc (ac _) (.cells #[.int .i64 4096,.int .i64 6] 23));have a:=aa (Bk.fresh w 23 #[.int .i64 4096,.int .i64 6]);have c:(w.alloc (.cells #[.int .i64 4096,.int .i64 6] 23)).cell? ⟨w.heap.size,0,none⟩=some (.int .i64 4096):=a.o.cell 0;have d:(w.alloc (.cells #[.int .i64 4096,.int .i64 6] 23)).cell? ⟨w.heap.size,1,none⟩=some (.int .i64 6):=a.o.cell 1;go_enter func29,ntmps29;go_wp2;go_ret;exact⟨rfl,b.o⟩
theorem aak(w:abP):abT 30 #[.int .i64 1] w (.tuple #[.int .i64 4,.bool true]):=by
 go_enter func30,ntmps30;go_wp2;go_ret2;exact⟨rfl,rfl⟩
abbrev SsT:TypeId:=92
def ssC(g:Nat)(e told:Int):Array Value:=#[.int .i64 1,.int .i64 4096,.int .i64 6,.string ⟨#[]⟩,.iface 96 (omV g),.func (.method "polyglot/session.feed") #[.iface 96 (omV g)] #[],.int .i64 e,.int .i64 told]
theorem aaN(w:abP):Calls prog 15 #[.agg #[.int .i64 1,.int .i64 4096,.int .i64 6,.string ⟨#[]⟩],.pointer none] w λe w'=>∃gs g,e= .returned (.tuple #[.pointer (some ⟨gs,0,none⟩),.int .i64 0])/\Bk w' gs SsT (ssC g 0 0)/\Bk w' g SmT (smC 4 4096 none 0 0 0 0 0)/\gs≠g/\w.heap.size<=gs/\w.heap.size<=g/\abQ w w':=by
 have s:=aa ((aq w.heap.size w).alloc (ac _) (.cells #[.int .i64 1,.int .i64 4096,.int .i64 6,.string ⟨#[]⟩] 57));have t:=aa (Bk.fresh w 57 #[.int .i64 1,.int .i64 4096,.int .i64 6,.string ⟨#[]⟩]);go_enter func15,ntmps15;go_wp2_with fail;refine Yg (aad _) λf d=>?_;have k:=aa (Yf s.o d);have a:=aa (Yh t.o d)
 clear d;have m:=aa (k.o.alloc k.o.size (.cells #[.int .i64 1,.int .i64 4096,.int .i64 6,.string ⟨#[]⟩,.nilIface,.nilFunc,.int .i64 0,.int .i64 0] 92));have b:=aa (a.o.alloc (.cells #[.int .i64 1,.int .i64 4096,.int .i64 6,.string ⟨#[]⟩,.nilIface,.nilFunc,.int .i64 0,.int .i64 0] 92));have j:=aa (Bk.fresh f 92 #[.int .i64 1,.int .i64 4096,.int .i64 6,.string ⟨#[]⟩,.nilIface,.nilFunc,.int .i64 0,.int .i64 0]);have u:f.cell? ⟨w.heap.size,0,none⟩=some (.int .i64 1):=a.o.cell 0;have v:f.cell? ⟨w.heap.size,1,none⟩=some (.int .i64 4096):=a.o.cell 1;have y:f.cell? ⟨w.heap.size,2,none⟩=some (.int .i64 6):=a.o.cell 2;have z:f.cell? ⟨w.heap.size,3,none⟩=some (.string ⟨#[]⟩):=a.o.cell 3;have F:=b.o.cell 0;have G:=b.o.cell 1;have H:=b.o.cell 2;have I:=b.o.cell 3;simp only[ay,aB,aE]at F G H I;obtain⟨gs,r⟩:∃q,f.heap.size=q:=⟨_,rfl⟩;have n:Hid (w.heap.size<gs):=aa (by rw[<-r];exact a.o.lt);rw[r]at j;go_wp2_with fail;refine(aak _).mono ?_;rintro e x ⟨rfl,rfl⟩;clear u v y z s t k a;generalize f.alloc (.cells #[.int .i64 1,.int .i64 4096,.int .i64 6,.string ⟨#[]⟩,.nilIface,.nilFunc,.int .i64 0,.int .i64 0] 92)=x1 at*;clear r;go_wp2_with fail;refine(ZQ 4 4096 6 _).mono ?_;rintro e A ⟨d,h⟩;rw[if_pos (by decide)]at h;obtain⟨g,rfl,J,bk⟩:=h;have l:=aa (Yf m.o d);have i:=aa (Yh b.o d);have c:=aa (Yh j.o d)
 have K:=aa (aC m.o.size J);have B:=aa bk
 have o:Hid (gs≠g):=aa (by have:=j.o.lt;omega);clear d J bk F G H I;have u:=i.o.cell 0;have v:=i.o.cell 1;have y:=i.o.cell 2;have z:=i.o.cell 3;simp only[ay,aB,aE]at u v y z;have L:=c.o.cell 4;have M:=c.o.cell 5;simp only[ay,aB,aE]at L M;have N:=c.o.free 4;have O:=c.o.free 5;have E:=aa ((c.o.put 4 (.iface 96 (omV g))).put 5 (.func (.method "polyglot/session.feed") #[.iface 96 (omV g)] #[]));have C:=aa ((B.o.other (p:=⟨gs,4,none⟩) (show g≠gs from o.o.symm) (.iface 96 (omV g))).other (p:=⟨gs,5,none⟩) (show g≠gs from o.o.symm) (.func (.method "polyglot/session.feed") #[.iface 96 (omV g)] #[]));have D:=aa (dw (dw l.o (YR A gs 4 (.iface 96 (omV g))) l.o.size (pf n.o)) (YR (A.setCell ⟨gs,4,none⟩ (.iface 96 (omV g))) gs 5 (.func (.method "polyglot/session.feed") #[.iface 96 (omV g)] #[])) (aC l.o.size (YR A gs 4 (.iface 96 (omV g))).size) (pf n.o));go_wp2;go_ret2;exact⟨gs,g,rfl,E.o,C.o,o.o,pf n.o,K.o,D.o⟩
theorem aau(gs g:Nat)(w0 w:abP)(hs:Bk w gs SsT (ssC g 0 0))(hb:Bk w g SmT (smC 4 4096 none 0 0 0 0 0))(hne:gs≠g)(hgs:w0.heap.size<=gs)(hg:w0.heap.size<=g)(hw:abQ w0 w):
  Calls prog 17 #[.pointer (some ⟨gs,0,none⟩),.string ⟨#[192,0]⟩] w λe w'=>∃u,e= .returned (.tuple #[u,.int .i64 0])/\aaL w0 w' u/\abQ w0 w':=by
 have z:=aa hs;have D:=aa hw;have i:=aa hgs;have r:=aa hne
 have m:=aa (aay g w0 w hb hw hg);have C:w.cell? ⟨gs,5,none⟩=some (.func (.method "polyglot/session.feed") #[.iface 96 (omV g)] #[]):=hs.cell 5;have v:w.cell? ⟨gs,6,none⟩=some (.int .i64 0):=hs.cell 6;have A:∀x:abP,(binOp BinOp.eql 60 (.func (.method "polyglot/session.feed") #[.iface 96 (omV g)] #[]) .nilFunc).run prog x= .ok (.bool false) x:=λx=>by kernel_rfl
 have B:∀(k:Nat) (x:abP),(method (k+1) 96 (omV g) "polyglot/session.feed").run prog x= .ok (402,omV g) x:=λk x=>by kernel_rfl
 clear hs hb hne hgs hg hw;go_enter func17,ntmps17;go_wp2_with fail;refine m.o.mono ?_;rintro e d ⟨u,rfl,s,f,j⟩;obtain⟨q,c,rfl,t,h,l⟩:=s;have a:=aa (j gs _ _ r.o z.o);clear j m C v A B;have G:d.cell? ⟨gs,7,none⟩=some (.int .i64 0):=a.o.cell 7;have F:=a.o.free 7;have E:=a.o.free 6;have v:d.cell? ⟨gs,6,none⟩=some (.int .i64 0):=a.o.cell 6;have b:q≠gs:=by
  rintro rfl;rw[a.o.cell 1]at h;cases h
 have o:Hid (((d.setCell ⟨gs,7,none⟩ (.int .i64 1)).setCell ⟨gs,6,none⟩ (.int .i64 0)).cell? ⟨q,1,none⟩=some (.int .i64 2)):=aa (by
  rw[iG (jz _ ⟨gs,6,none⟩ _ q b),iG (jz _ ⟨gs,7,none⟩ _ q b)];exact h)
 have p:Hid (((d.setCell ⟨gs,7,none⟩ (.int .i64 1)).setCell ⟨gs,6,none⟩ (.int .i64 0)).cell? ⟨q,12,none⟩=some (.int .i64 12)):=aa (by
  rw[iG (jz _ ⟨gs,6,none⟩ _ q b),iG (jz _ ⟨gs,7,none⟩ _ q b)];exact l)
 have n:=aa (dw (dw f (YR d gs 7 (.int .i64 1)) f.size i.o) (YR (d.setCell ⟨gs,7,none⟩ (.int .i64 1)) gs 6 (.int .i64 0)) (aC f.size (YR d gs 7 (.int .i64 1)).size) i.o);have y:=aa t;clear h l f b t;go_wp2;go_ret2;exact⟨_,rfl,⟨q,c,rfl,y.o,o.o,p.o⟩,n.o⟩
theorem aaz(w:abP):abR 16 #[] w (.agg #[.int .i64 4096,.int .i64 6]):=by
 have b:=aa (Bk.fresh w 23 #[.int .i64 4096,.int .i64 6]);have a:=aa ((aq w.heap.size w).alloc (ac _) (.cells #[.int .i64 4096,.int .i64 6] 23));go_enter func16,ntmps16;go_wp2;refine av (uo rfl _ rfl b.o) rfl ?_;exact⟨rfl,a.o⟩
theorem aag(w:abP):abR 4 #[] w (.bool true):=by
 go_enter func4,ntmps4;go_wp2_with fail;refine Yg (aaz _) λr d=>?_;have b:=aa d;clear d;go_wp2_with fail;refine(aaN _).mono ?_;rintro e n ⟨m,g,rfl,l,d,h,f,k,a⟩;have i:=aa (aau m g w n l d h (aC b.o.size f) (aC b.o.size k) (Yf b.o a));clear l d h f k a;go_wp2_with fail;refine i.o.mono ?_;rintro e s ⟨u,rfl,⟨q,c,rfl,-,o,p⟩,a⟩;have j:=aa a;clear i a;go_wp2;go_ret;exact⟨rfl,j.o⟩
