/- Parts: LcB, LimB, LmB, LmF, LmS, RgA. -/
import Derived.Test.YtafoknnjekegkaaGreatDoorLqG0RhB
set_option maxRecDepth 10000
set_option maxHeartbeats 8000000
namespace Go.Proofs.YtafoknnjekegkaaGreatDoor
open Go.RowKit Go.Proofs.Tryz
variable {k:Nat}{L:List Int}{z v:Int}
theorem acn{w w':abP}{base:Nat}{e:TypeId}{n:Nat}{v:Value}{xs:List Value}{row:Option Nat}(h:w.ownsRow base e k v n xs)(hg:w.grownBy w' row)(hne:∀g,v.ownBlock=some g->row≠some g):w'.ownsRow base e k v n xs:=by
 refine⟨h.1,?_⟩;rcases h.2 with b| ⟨g,cap,cur,rfl,c,a,d⟩
 ·exact .inl b
 ·exact .inr ⟨g,cap,cur,rfl,c,(hg.block g (cZ.1 a).1 (λx=>hne g rfl x.symm)).trans a,d⟩
def ab4(L:List Int)(k:Nat)(z:Int):Bool:=decide (0<k)&&decide (z<L.getD (k- 1) 0)
theorem acj(L:List Int)(z:Int):ab4 L 0 z=false:=rfl
theorem acc(L:List Int){q:Nat}(z:Int){y:Int}(h:L[q]? =some y):ab4 L (q+1) z=decide (z<y):=by
 unfold ab4;rw[au (Nat.succ_pos q),aL,Nat.add_sub_cancel,List.getD_eq_getElem?_getD,h];rfl
theorem ack{q:Nat}{y:Int}(hy:L[q]? =some y)(h:z<y)(hd:∀x∈L.drop (q+1),z<=x):∀x∈L.drop q,z<=x:=by
 intro x a;obtain⟨b,rfl⟩:=YI.1 hy;rw[bQ b]at a;rcases ie.1 a with rfl| a
 ·omega
 ·exact hd x a
theorem ach(ha:L.Pairwise λa b=>decide (a<=b)=true)(hk:k<=L.length)(h:ab4 L k z=false):∀x∈L.take k,x<=z:=by
 refine acq ha (λc d=>?_) hk;rw[show ab4 L k z=decide (z<L[k- 1]) by
  unfold ab4;rw[au d,aL,List.getD_eq_getElem?_getD,List.getElem?_eq_getElem c];rfl]at h
 have:=Gy h;omega
theorem acw(hk:k<=L.length)(h:ab4 L k z=true)(hd:∀x∈L.drop k,z<=x):∃q,k=q+1/\∀x∈L.drop q,z<=x:=by
 cases k with
 | zero=>rw[acj]at h;cases h
 | succ q=>
   have a:L[q]? =some L[q]:=List.getElem?_eq_getElem (by omega);rw[acc L z a]at h;exact⟨q,rfl,ack a (aR h) hd⟩
theorem ace(s:abO)(A:Option Addr)(l:List Int)(c:Nat)(w:abP)(hr:Rd w w.heap.size 1 A l.length (iv l))(hl:l.length<=1000000)(hs:s.size<=140737488351232):
  Calls prog 18 #[.string s,.slice A l.length c] w λe w'=>∃v,e= .returned v/\w'.ownsRow w.heap.size 9 1 v (lkL s (plL s.size l)).length (txv (lkL s (plL s.size l)))/\abQ w w':=by
 have HR:=aa hr;have HS:=aa hs;have HL:=aa hl
 have aj:=aa (Ya s.size l);have aS:=aa (λL (h:InsOk s.size l l.length L)=>h.done);have aU:Hid ((plL s.size l).length<=1000000):=aa (aC (XA s.size l) hl);obtain⟨R,hR⟩:∃R,plL s.size l=R:=⟨_,rfl⟩;rw[hR]at aj aS aU⊢;clear hr hs hl hR;go_enter func18,ntmps18;go_wp2
 go_loopw [5,6] (λlv zv wr=>∃(i n:Nat) (L:List Int),i<=l.length/\zv= .int .i64 i/\InsOk s.size l i L/\L.length=n/\wr.ownsRow w.heap.size 3 1 lv n (iv L)/\abQ w wr) (λ_ zv _=>l.length- (intOf zv).toNat)
 case atStart=>exact⟨0,0,[],ag _,rfl,aci _ _,rfl,dD _ _ _ _,aq _ _⟩
 case round=>
  obtain⟨i,n,L,hi,rfl,aF,hn,I,j⟩:=hrel;have OK:=aa aF;have S:=aa hn;have D:=aa I;have Q:=aa j;have HI:=aa hi
  have M:Hid (n<=1000000/\n<=i):=aa (by have:=aF.len;have:=HL.o;omega);clear aF I hn;by_cases d:i<l.length
  ·obtain⟨bA,oA,z,rfl,hb,hz,U⟩:=(HR.o.below j).atI d;have HZ:=aa hz;have r:=aa d;have HC:=aa U;have ai:=aa hb;have b1:(0:Int)<=(i:Int):=by omega
   have b2:(i:Int)<(l.length:Int):=by omega
   have N:wrap64 ((i:Int)+1)=((i+1:Nat):Int):=by have:=HL.o;unfold wrap64;omega
   clear hz j hi;by_cases h0:z<0
   ·have HP:Hid (WK s.size z=false):=aa (by unfold WK;rw[ah (by omega)];rfl);clear d;go_wp2;go_roundw
    case rel=>exact⟨i+1,n,L,r.o,by rw[N],OK.o.skip HZ.o HP.o,S.o,D.o,Q.o⟩
    case measure=>rw[N];simp only[intOf,dN];have:=r.o;omega
   by_cases Z:(s.size:Int)<z
   ·have HP:Hid (WK s.size z=false):=aa (by unfold WK;rw[ah (show ¬z<=(s.size:Int) by omega),ru]);clear d;go_wp2;go_roundw
    case rel=>exact⟨i+1,n,L,r.o,by rw[N],OK.o.skip HZ.o HP.o,S.o,D.o,Q.o⟩
    case measure=>rw[N];simp only[intOf,dN];have:=r.o;omega
   have bx:0<=z:=by omega
   have bz:z<=(s.size:Int):=by omega
   have HP:Hid (WK s.size z=true):=aa (by unfold WK;rw[au bx,au bz];rfl);obtain⟨F,J,rfl,am,ad⟩:=jK D.o;have aZ:=aa ad;have aR:=aa am
   obtain⟨m,aH⟩:∃x,x=wr:=⟨_,rfl⟩;subst aH;clear h0 Z am ad d;go_wp2
   go_loopw [7] (λav wq=>∃k:Nat,k<=n/\av= .int .i64 k/\(∀x∈L.drop k,z<=x)/\abQ m wq) (λav _=>(intOf av).toNat)
   case atStart=>exact⟨n,ac _,rfl,by rw[<-S.o,ox];simp,aq _ _⟩
   case round=>
    obtain⟨k,V,rfl,ab,ak⟩:=hrel;have HK:=aa V;have HD:=aa ab;have BQ:=aa ak
    clear ab;have U:wr.cell? ⟨bA,oA+i,none⟩=some (.int .i64 z):=(BQ.o.cell (by have:=ai.o;have:=Q.o.size;simp;omega)).trans HC.o;go_upto_region 7 with fail
    go_cut [47] (λtv wx=>tv= .bool (ab4 L k z)/\abQ m wx)
    case first=>
     by_cases aE:k=0
     ·have HE:Hid (ab4 L k z=false):=aa (by rw[aE];rfl);have d0:decide ((0:Int)<(k:Int))=false:=ah (by omega);have d1:decide (0<k)=false:=ah (by omega);clear aE V;go_quiet (fail);go_wp2;go_meet
      case rel=>exact⟨by rw[HE.o],aV BQ.o _⟩
     ·obtain⟨q,rfl⟩:∃q,k=q+1:=⟨k- 1,by omega⟩;obtain⟨bL,oL,y,rfl,ca,hy,cd⟩:=(aZ.o.below ak).atI (i:=q) (by omega);have HE:Hid (ab4 L (q+1) z=decide (z<y)):=aa (acc L z hy);have b3:(0:Int)<=(q:Int):=by omega
      have b4:(q:Int)<(n:Int):=by omega
      have O:wrap64 ((q:Int)+1- 1)=(q:Int):=by have:=M.o;unfold wrap64;omega
      have cf:IntKind.i64.wrap ((q:Int)+1- 1)=(q:Int):=by rw[aQ];have:=M.o;omega
      have cg:IntKind.i64.wrap (q:Int)=(q:Int):=by rw[aQ];have:=M.o;omega
      have d0:decide ((0:Int)<((q+1:Nat):Int))=true:=au (by omega);clear aE V hy ak;go_quiet (fail);go_wp2;go_meet
      case rel=>exact⟨by rw[HE.o],aV BQ.o _⟩
    obtain⟨rfl,a2⟩:=hcut;obtain⟨u,bI⟩:∃x,x=wc:=⟨_,rfl⟩;subst bI;have BX:=aa a2;have p:Hid (k<=n):=aa V;clear a2 ak U;cases hG:ab4 L k z
    ·have FR:=aa (ach OK.o.asc (by rw[S.o];exact p.o) hG);have aW:Hid (u.ownsRow w.heap.size 3 1 (.slice F n J) n (iv L)):=aa (dV D.o BX.o);have ay:Hid (∀g,(Value.slice F n J).ownBlock=some g->w.heap.size<=g/\g<u.heap.size):=aa (cX aW.o);have ax:Hid (Rd u u.heap.size 1 (xt F J k 1) (n- k) (iv (L.drop k))):=aa (by
      have:=((aZ.o.below BX.o).wider BX.o.size).cut_from p.o aR.o;rwa[acz]at this)
     have af:=aa (Yf Q.o BX.o);have U:u.cell? ⟨bA,oA+i,none⟩=some (.int .i64 z):=(BX.o.cell (by have:=ai.o;have:=Q.o.size;simp;omega)).trans HC.o;have hf:=λW=>NV (P:=prog) (t:=27) (e:=3) (s:=1) underlying27 Tryz.sizeOf3 F n J k p.o W;have ht:=λW=>Bi (P:=prog) (t:=27) (e:=3) (s:=1) underlying27 Tryz.sizeOf3 F n J k (aC p.o aR.o) W;obtain⟨A1,a0⟩:∃A1,xt F J k 1=A1:=⟨_,rfl⟩;rw[a0]at ax hf;obtain⟨X,a4⟩:∃X,n- k=X:=⟨_,rfl⟩;rw[a4]at ax hf;obtain⟨q1,O⟩:∃q1,J- k=q1:=⟨_,rfl⟩;rw[O]at hf;have G:Hid (k+1+X=n+1/\X<=1000000/\k<=1000000):=aa (by have:=p.o;have:=M.o;omega);have bD:(u.alloc (.cells #[] 3)).cell? ⟨bA,oA+i,none⟩=some (.int .i64 z):=by
      rw[fD _ _ _ (by have:=ai.o;have:=af.o.size;simp;omega)];exact U
     clear a0 a4 O hG V;go_upto_region 10 with (at_builtin;refine kF _ rfl (.tmp 50) (.tmp 53) 27 rfl u.heap.size 3 _ 1 8 underlying27 Xe rfl (by decide) (.slice (some ⟨u.heap.size,0,none⟩) 0 0) 0 [] rfl (UH u u.heap.size _ 1 (ac _)) _ A1 X q1 (iv (L.drop k)) rfl (ax.o.alloc (ac _) _) (XS _) (by have:=G.o;unfold maxLen;omega) (by have:=G.o;omega) (by simp) ?_;intro v3 Y b C H)
     rw[bV,dX]at b;have B3:=aa (kz ((aq u.heap.size u).alloc (ac _) (.cells #[] 3)) C (by simp) (λg B=>Nat.le_of_eq (by simpa [Value.ownBlock]using B)));obtain⟨A3,c3,rfl,bE,-⟩:=jK b;have aX:=aa (dV aW.o B3.o);have aY:=aa b;have K:=aa (Yf af.o B3.o);have U:Y.cell? ⟨bA,oA+i,none⟩=some (.int .i64 z):=(B3.o.cell (by have:=ai.o;have:=af.o.size;simp;omega)).trans U;have aT:=aa (λx=>aco (w:=x) (base:=w.heap.size) (e:=3) (s:=1) (A:=F) (n:=n) (c:=J) (xs:=iv L) (k:=k));have bs:Hid (∀g,(Value.slice A3 X c3).ownBlock=some g->u.heap.size<=g/\g<Y.heap.size):=aa (cX b);clear b C H hf bD
     go_region_law (first
      | (refine mS (by rfl) (.tmp 57) (.tmp 62) 27 (by rfl) w.heap.size 3 _ 1 8 underlying27 Xe rfl (by decide) (.slice F k J) k (iv (L.take k)) (by rfl) (by rw[<-acy];first| exact aT.o _ (aX.o.alloc _) p.o| exact aT.o _ (lV (aX.o.alloc _) 1) p.o) _ _ 1 1 [.int .i64 z] (by rfl) (by first| exact Rd.lit _ _ _ rfl (ed _) rfl) (XS [z]) (by have:=G.o;unfold maxLen;omega) (by have:=G.o;omega) (by have:=K.o.size;simp;omega) ?_
         intro v4 w4 E aD bj;have bu:Hid (w4.ownsRow u.heap.size 3 1 (.slice A3 X c3) X (iv (L.drop k))):=aa (acn (by first| exact aY.o.alloc _| exact lV (aY.o.alloc _) 1) aD (λg B e=>by
          have Z:=bs.o g B;have T:=ay.o g (by rw[<-e];cases F<;>rfl);omega))
         have B4:Hid (abQ w w4):=aa (kz (by first| exact K.o.alloc K.o.size _| exact aV (K.o.alloc K.o.size _) 1) aD (by have:=K.o.size;simp;omega) (λg B=>(ay.o g (by rw[<-B];cases F<;>rfl)).1));have bH:Hid (∀g,v4.ownBlock=some g->w.heap.size<=g):=aa (λg B=>(cX E g B).1))
      | (obtain⟨A4,c4,bF,cb,a5⟩:=jK bu.o
         cases bF;refine mS (by rfl) (.tmp 63) (.tmp 64) 27 (by rfl) w.heap.size 3 _ 1 8 underlying27 Xe rfl (by decide) v4 (k+1) _ (by rfl) (by first| exact E| exact lV E 1) _ A3 X c3 (iv (L.drop k)) (by rfl) (by first| exact a5| exact a5.drewN 1) (XS _) (by have:=G.o;unfold maxLen;omega) (by have:=G.o;omega) (by first| exact B4.o.size| simpa using B4.o.size) ?_;intro v5 w5 an a3 bk))
     all_goals
      have bq:Hid (iv (ab9 L k z)=(iv (L.take k)++[.int .i64 z])++iv (L.drop k)):=aa (acA L k z);have R5:w5.ownsRow w.heap.size 3 1 v5 (n+1) (iv (ab9 L k z))/\abQ w w5:=⟨by rw[bq.o,<-G.o.1];exact an,kz (by first| exact B4.o| exact aV B4.o 1) a3 (by first| exact B4.o.size| simpa using B4.o.size) (λg B=>bH.out g B)⟩;have be:=aa (OK.o.put HZ.o HP.o (k:=k) FR.o HD.o);have bd:=aa (acu L (k:=k) (by rw[S.o];exact p.o) z);clear an a3 bk E aD bj;go_wp2;go_roundw
      case rel=>exact⟨i+1,n+1,ab9 L k z,r.o,by rw[N],be.o,by rw[bd.o,S.o],R5.1,R5.2⟩
      case measure=>rw[N];simp only[intOf,dN];have:=r.o;omega
    ·obtain⟨q,rfl,ab⟩:=acw (by rw[S.o];exact p.o) hG HD.o;have O:wrap64 (q:Int)=(q:Int):=by have:=M.o;have:=p.o;unfold wrap64;omega
     have HQ:=aa ab;clear ab hG V;go_wp2;go_roundw
     case rel=>exact⟨q,by have:=p.o;omega,by rw[O],HQ.o,BX.o⟩
     case measure=>rw[O];simp only[intOf,dN];exact ed q
  ·obtain rfl:i=l.length:=by omega
   have bC:=aS.o L OK.o;subst bC;obtain rfl:=S.o;obtain⟨F,J,rfl,am,ad⟩:=jK D.o;obtain⟨m,aH⟩:∃x,x=wr:=⟨_,rfl⟩;subst aH;have bt:=aa ad;have b2:(l.length:Int)<=(l.length:Int):=Int.le_refl _;clear d hi j am ad D OK S HI M;go_wp2
   go_loopw [9,10,11] (λo f zv wq=>∃k:Nat,k<=R.length/\zv= .int .i64 k/\f= .int .i64 (lkA R k)/\wq.ownsRow m.heap.size 9 1 o k (txv ((List.range k).map (lkS s R)))/\abQ m wq) (λ_ _ zv _=>R.length- (intOf zv).toNat)
   case atStart=>exact⟨0,by omega,rfl,by rw[vc];rfl,dD _ _ _ _,aq _ _⟩
   case round=>
    obtain⟨k,V,rfl,rfl,I,j⟩:=hrel;have D:=aa I;have aO:=aa j
    have aG:=j.size;have HD:=aU.o;clear I;by_cases d:k<R.length
    ·obtain⟨bL,oL,z,rfl,hb,hz,U⟩:=(bt.o.below j).atI d;have a6:R[k]=z:=by rw[List.getElem?_eq_getElem d]at hz;exact Option.some.inj hz
     have Z:=aj.o.at d;rw[a6]at Z;have T:=aj.o.le V;rw[FH d]at T;have HX:Hid (lkS s R k=s.extract (lkA R k) (lkA R (k+1))):=aa (by unfold lkS;rw[FH d]);obtain⟨a,ha⟩:∃a,lkA R k=a:=⟨_,rfl⟩;obtain⟨q,hq⟩:∃q,lkA R (k+1)=q:=⟨_,rfl⟩;have HQ:=aa hq;rw[hq]at Z T HX;rw[ha]at T HX⊢;obtain⟨Z,h3⟩:=Z;subst Z;have c1:(0:Int)<=(a:Int):=by omega
     have c2:(a:Int)<=(q:Int):=by omega
     have c3:(q:Int)<=(s.size:Int):=by omega
     have b1:(0:Int)<=(k:Int):=by omega
     have b2:(k:Int)<(R.length:Int):=by omega
     have ce:wrap64 ((k:Int)+1)=((k+1:Nat):Int):=by unfold wrap64;omega
     have HT:Hid (txv ((List.range (k+1)).map (lkS s R))=txv ((List.range k).map (lkS s R))++[.string (s.extract a q)]):=aa (by rw[Xh,Xf,HX.o]);have aP:Hid (∀x,Below m.heap.size wr x->x.cell? ⟨bL,oL+k,none⟩=some (.int .i64 q)):=aa (λx hx=>(hx.cell hb).trans U);have cc:=aP.o _ ((aq m.heap.size wr).alloc aG (.cells #[.string (s.extract a q)] 9));have r:=aa d;clear hz a6 T h3 hq ha d j V;go_upto_region 16 with fail
     go_region_law (refine mS (by rfl) (.tmp 72) (.tmp 80) 42 (by rfl) m.heap.size 9 (.string ⟨#[]⟩) 1 16 underlying42 WP rfl (by decide) _ k _ (by rfl) (by first| exact D.o.alloc _| exact lV (D.o.alloc _) 1) _ _ 1 1 [.string (s.extract a q)] (by rfl) (by first| exact Rd.lit _ _ _ rfl (ed _) rfl) (Xt [s.extract a q]) (by unfold maxLen;omega) (by omega) (by simp;omega) ?_
                    intro v3 Y b C H;have a1:Hid (Below m.heap.size wr Y):=aa (kz (by first| exact(aq m.heap.size wr).alloc aG _| exact aV ((aq m.heap.size wr).alloc aG _) 1) C (by simp;omega) (λg B=>(cX D.o g B).1));have bE:=aP.o _ a1.out)
     all_goals
      have R3:Y.ownsRow m.heap.size 9 1 v3 (k+1) (txv ((List.range (k+1)).map (lkS s R)))/\abQ m Y:=⟨by rw[HT.o];exact b,aO.o.trans a1.out⟩;clear b C H;go_wp2;go_roundw
      case rel=>exact⟨k+1,r.o,by go_num,by rw[HQ.o],R3.1,R3.2⟩
      case measure=>have:=r.o;simp[intOf];omega
    ·obtain rfl:k=R.length:=by omega
     have T:=aj.o.le (ac _);rw[Eu (WQ _)]at T;have HX:Hid (lkS s R R.length=s.extract (lkA R R.length) s.size):=aa (by unfold lkS;rw[Eu (WQ _)]);obtain⟨a,ha⟩:∃a,lkA R R.length=a:=⟨_,rfl⟩;rw[ha]at T HX⊢;have c1:(0:Int)<=(a:Int):=by omega
     have c2:(a:Int)<=(s.size:Int):=by omega
     have b3:(R.length:Int)<=(R.length:Int):=Int.le_refl _;have HT:Hid (txv (lkL s R)=txv ((List.range R.length).map (lkS s R))++[.string (s.extract a s.size)]):=aa (by unfold lkL;rw[Xh,Xf,HX.o]);clear T ha;go_wp2_with (at_builtin;refine kF _ rfl (.tmp 86) (.tmp 90) 42 rfl m.heap.size 9 (.string ⟨#[]⟩) 1 16 underlying42 WP rfl (by decide) _ R.length _ rfl (D.o.alloc _) _ _ 1 1 [.string (s.extract a s.size)] rfl (Rd.lit _ _ _ rfl (ed _) rfl) (Xt [s.extract a s.size]) (by unfold maxLen;omega) (by omega) (by simp;omega) ?_;intro v' Y b C H);have R3:Y.ownsRow w.heap.size 9 1 v' (lkL s R).length (txv (lkL s R))/\abQ w Y:=by
      rw[HT.o,XR];refine⟨zH b Q.o.size,Q.o.trans ((kz (aO.o.alloc (by omega) _) C (by simp;omega) (λg B=>(cX D.o g B).1)).mono Q.o.size)⟩
     clear b C H;go_wp2;go_ret;exact⟨v',rfl,R3.1,R3.2⟩
theorem act(l:List Int)(n:Nat)(hn:l.length=n)(A:Option Addr)(c:Nat)(w:abP)(h:Rd w w.heap.size 1 A n (iv l))(hl:n<=1000000):
  Calls prog 17 #[.slice A n c] w λe w'=>∃v,e= .returned v/\w'.ownsRow w.heap.size 3 1 v n (iv l)/\abQ w w':=by
 have H:=aa h;clear h
 subst hn;go_enter func17,ntmps17;go_wp2_with (at_builtin;refine kF _ rfl (.tmp 3) (.tmp 4) 27 rfl w.heap.size 3 _ 1 8 underlying27 Xe rfl (by decide) (.slice (some ⟨w.heap.size,0,none⟩) 0 0) 0 [] rfl (UH w w.heap.size _ 1 (ac _)) _ _ _ _ (iv l) rfl (H.o.alloc (ac _) _) (XS _) (by unfold maxLen;omega) (by omega) (by simp) ?_;intro i j a b d);go_ret;refine⟨i,rfl,by simpa using a,kz ((aq _ _).alloc (ac _) _) b (by simp) (λg f=>?_)⟩;have:w.heap.size=g:=by simpa [Value.ownBlock]using f
 omega
theorem Xx(A A':Option Addr)(n m c c':Nat)(l l':List abO)(w:abP)(hl:Rd w w.heap.size 1 A n (txv l))(hm:Rd w w.heap.size 1 A' m (txv l'))(hn:n<=9223372036854775807)(hn':m<=9223372036854775807)(he:l=l'):
  abR 15 #[.slice A n c,.slice A' m c'] w (.bool true):=by
 subst he;have f:l.length=n:=by have:=hl.len;simp[txv]at this;omega
 have h:l.length=m:=by have:=hm.len;simp[txv]at this;omega
 obtain rfl:n=m:=by omega
 have s:=aa f;clear f h
 go_enter func15,ntmps15;go_wp2
 go_loopw [5] (λi wr=>∃k:Nat,k<=n/\i= .int .i64 k/\abQ w wr) (λi _=>n- (intOf i).toNat)
 case atStart=>exact⟨0,by omega,rfl,aq _ _⟩
 case round=>
  obtain⟨k,x,rfl,a⟩:=hrel;by_cases d:k<n
  ·obtain⟨t,y,z,rfl,u,g,v⟩:=(hl.below a).atT d;obtain⟨o,r,j,rfl,p,b,q⟩:=(hm.below a).atT d;obtain rfl:z=j:=by rw[g]at b;exact Option.some.inj b
   clear g b hl hm;have b1:(0:Int)<=(k:Int):=by omega
   have b2:(k:Int)<(n:Int):=by omega
   go_wp2;go_quiet (fail);go_wp2;go_roundw
   case rel=>exact⟨k+1,by omega,by go_num,aV a _⟩
   case measure=>simp[intOf];omega
  ·go_wp2;go_ret;exact⟨rfl,a⟩
theorem XE(W:abP):Rd (W.alloc (.cells #[.int .i64 2,.int .i64 0] 3)) (W.alloc (.cells #[.int .i64 2,.int .i64 0] 3)).heap.size 1 (some ⟨W.heap.size,0,none⟩) 2 (iv [2,0]):=
 Rd.lit W _ _ rfl (by simp) rfl
theorem Xi(w:abP):abR 4 #[] w (.bool true):=by
 have d:=aa ((aq w.heap.size w).alloc (ac _) (.cells #[.int .i64 2,.int .i64 0] 3));have g:=aa (Xs ⟨#[97,98,99]⟩ (some ⟨w.heap.size,0,none⟩) [2,0] 2 _ (XE w) (by decide) (by decide));rw[show(⟨#[97,98,99]⟩:abO).size=3 from rfl,Xm]at g;go_enter func4,ntmps4;go_wp2_with fail;refine g.o.mono ?_;rintro e l ⟨v,rfl,c,b⟩;obtain⟨i,k,rfl,-,h⟩:=jK c;have j:=aa h;have a:=aa (Yf d.o b);clear h c b;go_wp2_with fail;refine Yg (Xx i _ _ 3 k _ [⟨#[]⟩,⟨#[97,98]⟩,⟨#[99]⟩] [⟨#[]⟩,⟨#[97,98]⟩,⟨#[99]⟩] _ (j.o.alloc (ac _) _ |>.wider (by simp)) (Rd.lit _ _ _ rfl (by simp) rfl) (by decide) (by decide) rfl) λm b=>?_;have f:=aa ((a.o.alloc a.o.size _).trans (b.mono (a.o.alloc a.o.size _).size));clear b;go_wp2;go_ret;exact⟨rfl,f.o⟩
section
attribute [local go_sem ↓] xS
attribute [local go_sem] um
theorem WU(mp md:Int)(w:abP):abR 9 #[zW mp md] w (.int .i64 (lmC mp md)):=by
 have d:Hid (WZ mp md=decide (16<=mp/\mp<=1048576/\0<=md/\md<=32)):=aa rfl;have i:=aa ((aq w.heap.size w).alloc (ac _) (.cells #[.int .i64 mp,.int .i64 md] 23));have j:=aa (Bk.fresh w 23 #[.int .i64 mp,.int .i64 md]);have k:(w.alloc (.cells #[.int .i64 mp,.int .i64 md] 23)).cell? ⟨w.heap.size,0,none⟩=some (.int .i64 mp):=j.o.cell 0;have l:(w.alloc (.cells #[.int .i64 mp,.int .i64 md] 23)).cell? ⟨w.heap.size,1,none⟩=some (.int .i64 md):=j.o.cell 1;unfold zW;by_cases c:16<=mp/\mp<=1048576/\0<=md/\md<=32
 ·have h:Hid (lmC mp md=0):=aa (Xp (by rw[d.o,au c]));obtain⟨a,b,o,p⟩:=c;clear d;go_enter func9,ntmps9;go_wp2;go_ret;exact⟨by rw[h.o];rfl,i.o⟩
 ·have h:Hid (lmC mp md=2):=aa (Xd (by rw[d.o,ah c];decide));have a:(mp<16\/(16<=mp/\1048576<mp)\/(16<=mp/\mp<=1048576)):=by omega
  have b:(md<0\/(0<=md/\32<md)\/(0<=md/\md<=32)):=by omega
  rcases a with a| ⟨a,f⟩ | ⟨a,f⟩<;>rcases b with b| ⟨b,g⟩ | ⟨b,g⟩
  all_goals first
   | exact absurd (And.intro a (And.intro f (And.intro b g))) c
   | (clear c d
      try have n:decide (md<=32)=false:=ah (by omega)
      try have m:decide (mp<=1048576)=false:=ah (by omega)
      go_enter func9,ntmps9;go_wp2;go_ret;exact⟨by rw[h.o];rfl,i.o⟩)
theorem WX(w:abP):abR 11 #[] w (zW 1048576 32):=by
 have a:=aa ((aq w.heap.size w).alloc (ac _) (.cells #[.int .i64 1048576,.int .i64 32] 23));have b:=aa (Bk.fresh w 23 #[.int .i64 1048576,.int .i64 32]);go_enter func11,ntmps11;go_wp2;refine abZ (uo rfl _ rfl b.o) rfl ?_;exact⟨rfl,a.o⟩
theorem XB{s:abO}(h:(hdR v s).2.2=0):(hdR v s).1.n<=268435455/\(hdR v s).2.1<=s.size:=by
 obtain⟨b1,b2,c,d,b⟩:=kw (v:=v) (s:=s) (h:=(hdR v s).1) (a:=(hdR v s).2.1) (by rw[<-h]);exact⟨b2,b⟩
theorem Xg(v mp:Int)(s:abO)(w:abP)(hm:16<=mp/\mp<=1048576)(hs:s.size<=1000000000000):Calls prog 20 #[.int .i64 v,.int .i64 mp,.string s] w (tM (smN v mp s) w):=by
 have i:Hid (smN v mp s=if(hdR v s).2.2≠0 then(pk0,0,(hdR v s).2.2)else if mp<((hdR v s).2.1+(hdR v s).1.n:Nat)then(pk0,0,4)else mqR v s):=aa (W7 v mp s);have HS:=aa hs;have HM:=aa hm
 have L:=aa ((aq w.heap.size w).alloc (ac _) (.cells (pkC pk0 hs0) PkT));have N:=aa (Bk.fresh w PkT (pkC pk0 hs0));have g:=aa (λW=>qy v s W (by omega));have d:=aa (XB (v:=v) (s:=s));have F:=aa (λW=>wS v s W hs);clear hs hm;obtain⟨R,hR⟩:∃R,mqR v s=R:=⟨_,rfl⟩;rw[hR]at i F;clear hR;obtain⟨⟨⟨k,f,n⟩,a,x⟩,hr⟩:∃r,hdR v s=r:=⟨_,rfl⟩;rw[hr]at i g d;simp only[Cx]at i g d;clear hr;go_enter func20,ntmps20;go_wp2_with fail;refine Yg (g.o _) λC P=>?_;have l:=aa (Yf L.o P);have E:=aa (Yh N.o P);clear P g L N;obtain⟨y,B⟩:∃y,C.alloc (.cells #[.int .i64 k,.int .i64 f,.int .i64 n] 61)=y:=⟨_,rfl⟩;have c:Hid (abQ w y):=aa (by rw[<-B];exact l.o.alloc l.o.size _);have b:Hid (Bk y w.heap.size PkT (pkC pk0 hs0)):=aa (by rw[<-B];exact E.o.alloc _);obtain⟨O,I⟩:∃O,C.heap.size=O:=⟨_,rfl⟩;have M:Hid (Bk y O 61 #[.int .i64 k,.int .i64 f,.int .i64 n]):=aa (by rw[<-B,<-I];exact Bk.fresh C _ _);go_upto_region 2 with fail
 clear B I l E;clear C;have K:=aW b.o pk0 hs0;have m:Hid (abQ w (dE y w.heap.size pk0 hs0)):=aa (YQ c.o c.o.size (ac _) pk0 hs0);have q:=aa (cO b.o pk0 hs0);by_cases j:x=0;rotate_left
 ·have t:Hid (smN v mp s=(pk0,0,x)):=aa (by rw[i.o,if_pos j]);have e0:(x !=0)=true:=aA.2 j;clear j;go_wp2;refine abZ (eZ rfl _ rfl q.o) rfl ?_;exact gR t.o m.o
 obtain⟨b2,b3⟩:=d.o j;have o:Hid (smN v mp s=if mp<(a+n:Nat)then(pk0,0,4)else R):=aa (by rw[i.o,Fl (λz=>z j)]);subst j;have ag:=HS.o;have ad:=HM.o
 have S:=M.o.cell 0;have T:=M.o.cell 1;have U:=M.o.cell 2
 simp only[ay,aE,aB]at S T U;have af:wrap64 (mp- (a:Int))=mp- (a:Int):=by unfold wrap64;omega
 clear i d;by_cases h:mp<((a+n:Nat):Int)
 ·have t:Hid (smN v mp s=(pk0,0,4)):=aa (by rw[o.o,if_pos h]);have V:decide (mp- (a:Int)<(n:Int))=true:=au (by omega);have X:mp- (a:Int)<(n:Int):=by omega
  have Y: -9223372036854775808<=mp- (a:Int):=by omega
  have Z:mp- (a:Int)<=9223372036854775807:=by omega
  clear h;go_wp2;refine abZ (eZ rfl _ rfl q.o) rfl ?_;exact gR t.o m.o
 have t:Hid (smN v mp s=R):=aa (by rw[o.o,Fl h]);have V:decide (mp- (a:Int)<(n:Int))=false:=ah (by omega);have X:(n:Int)<=mp- (a:Int):=by omega
 have Y: -9223372036854775808<=mp- (a:Int):=by omega
 have Z:mp- (a:Int)<=9223372036854775807:=by omega
 clear h o K q m;go_wp2_with fail;refine(F.o _).mono ?_;rintro e w3 ⟨A,rfl,J,u,H⟩;have D:=aa (Yf c.o u);have p:=aa (Yh b.o u);have K:=aW p.o R.1 A;have I3:=aa J;have Q:=aa H;have G:=aa b.o.lt
 clear J H u S T U af V X Y Z ag ad b2 b3;go_wp2;refine abZ (eZ rfl _ rfl (cO p.o R.1 A)) rfl ?_;rw[t.o];exact⟨A,rfl,I3.o.put p.o (cJ _ _ _ _) Q.o G.o,YQ D.o D.o.size (ac _) R.1 A,Q.o.mono (pf G.o)⟩
theorem WN(v mp md:Int)(p:Pk)(h:Hs)(w:abP)(ip:PkIn w w.heap.size p h)(ok:PkOk p)(hz:MV v p):
  abR 13 #[.int .i64 v,zW mp md,pkV p h] w (.bool (WL v mp md p)):=by
 have m:Hid (WL v mp md p=(WZ mp md&&(decide ((mqB v p).2=0)&&decide (((mqB v p).1.size:Int)<=mp)))):=aa rfl;have b0:=(aq w.heap.size w).alloc (ac _) (.cells #[.int .i64 mp,.int .i64 md] 23);have t:=Bk.fresh w 23 #[.int .i64 mp,.int .i64 md];have n:=aa (((St.start w).below b0).push (ip.next b0));have d:=aa (t.alloc (.cells (pkC p h) PkT));rw[show(w.alloc (.cells #[.int .i64 mp,.int .i64 md] 23)).heap.size=w.heap.size+1 by simp]at n;have l:=aa (WU mp md);have x:=aa ok;have u:=aa hz
 unfold zW at*;clear b0 t ip ok hz;have k:=d.o.cell 0;have r:=d.o.cell 1;simp only[ay,aE,aB]at k r;go_enter func13,ntmps13;go_wp2_with fail;refine Yg (l.o _) λA a=>?_;have i:=aa (n.o.below a);have f:=aa (Yh d.o a)
 clear a k r l n d;by_cases c:WZ mp md=true;rotate_left
 ·have g:Hid (WL v mp md p=false):=aa (by rw[m.o,Bool.eq_false_iff.2 c,YH]);rw[Xd c];clear c;go_wp2;go_ret;exact⟨by rw[g.o];rfl,i.o.kept⟩
 have b:Hid (WL v mp md p=(decide ((mqB v p).2=0)&&decide (((mqB v p).1.size:Int)<=mp))):=aa (by rw[m.o,c,aL]);rw[Xp c];clear c m;have s:=i.o.ld 0 rfl;go_wp2_with fail;refine Yg (Vq v p h _ (i.o.into 0 rfl) x.o u.o) λB a=>?_;have q:=aa (i.o.below a);have o:=aa (Yh f.o a)
 clear a s i f;generalize (mqB v p).2=E at*;generalize (mqB v p).1.size=z at*;have k:=o.o.cell 0;simp only[ay,aB]at k;by_cases j:E=0
 ·have g:Hid (WL v mp md p=decide ((z:Int)<=mp)):=aa (by rw[b.o,au j,aL]);subst j;clear b;go_wp2;go_ret;exact⟨by rw[g.o];rfl,q.o.kept⟩
 ·have g:Hid (WL v mp md p=false):=aa (by rw[b.o,ah j,YH]);have y:(E==0)=false:=ar.2 j;clear b j;go_wp2;go_ret;exact⟨by rw[g.o];rfl,q.o.kept⟩
def XM(y:abP)(R:Pk×Nat×Int)(pz nz ez:Value)(wx:abP):Prop:=∃hh g,pz= .pointer (some ⟨g,0,none⟩)/\nz= .int .i64 (R.2.1:Nat)/\ez= .int .i64 R.2.2/\y.heap.size<=g/\Bk wx g PkT (pkC R.1 hh)/\PkIn wx wx.heap.size R.1 hh/\abQ y wx/\ja y R.1 hh
theorem WR{y w3:abP}{R:Pk×Nat×Int}{hh:Hs}(hi:PkIn w3 w3.heap.size R.1 hh)(hb:Below (y.alloc (.cells (pkC pk0 hs0) PkT)).drew.heap.size (y.alloc (.cells (pkC pk0 hs0) PkT)).drew w3)(hf:ja (y.alloc (.cells (pkC pk0 hs0) PkT)).drew R.1 hh):
  (zc (.pointer (some ⟨y.heap.size,0,none⟩)) (pkV R.1 hh)).run prog w3= .ok () (dE w3 y.heap.size R.1 hh)/\XM y R (.pointer (some ⟨y.heap.size,0,none⟩)) (.int .i64 (R.2.1:Nat)) (.int .i64 R.2.2) (dE w3 y.heap.size R.1 hh):=by
 have b:Bk (y.alloc (.cells (pkC pk0 hs0) PkT)).drew y.heap.size PkT (pkC pk0 hs0):=(Bk.fresh y PkT (pkC pk0 hs0)).drewN 1;have c:=Yh b hb;have a:abQ y (y.alloc (.cells (pkC pk0 hs0) PkT)).drew:=aV ((aq y.heap.size y).alloc (ac _) (.cells (pkC pk0 hs0) PkT)) 1;exact⟨aW c R.1 hh,hh,y.heap.size,rfl,rfl,rfl,ac _,cO c R.1 hh,hi.put c (cJ _ _ _ _) hf b.lt,YQ (Yf a hb) (aC a.size hb.size) (ac _) R.1 hh,hf.mono a.size⟩
theorem Xn{y w3:abP}{R:Pk×Nat×Int}{hh:Hs}(hi:PkIn w3 w3.heap.size R.1 hh)(hb:Below y.drew.heap.size y.drew w3)(hf:ja y.drew R.1 hh):
  XM y R (.pointer (some ⟨w3.heap.size,0,none⟩)) (.int .i64 (R.2.1:Nat)) (.int .i64 R.2.2) (w3.alloc (.cells (pkC R.1 hh) PkT)):=
 ⟨hh,w3.heap.size,rfl,rfl,rfl,hb.size,Bk.fresh _ _ _,hi.next ((aq _ _).alloc (ac _) _),((aV (aq y.heap.size y) 1).trans hb).alloc hb.size _,hf⟩
theorem XQ{mp md:Int}(h:¬nF v mp md=true)(s:abO):lmS v mp md s=([],0,2):=Fl h
theorem Yb{mp md:Int}(h:nF v mp md=true)(s:abO):lmS v mp md s=((smG v mp s 0 0 []).1,(smG v mp s 0 0 []).2.2.1,(smG v mp s 0 0 []).2.2.2.2):=if_pos h
theorem RowI.wide2{w0 w' x:abP}{A:Option Addr}{n c:Nat}{L:List (Pk×Hs)}(h:RowI w0 x A n c L)(hb:w'.heap.size<=w0.heap.size):RowI w' x A n c L:=by
 refine⟨⟨h.row.len,?_⟩,h.ins,h.apart⟩;rcases h.row.lies with a| ⟨g,M,a,b,d⟩
 ·exact .inl a
 ·exact .inr ⟨g,M,a,aC hb b,d⟩
def SpL(w1:abP)(v mp:Int)(s:abO)(RES:List Pk×Nat×Int)(lv zv:Value)(wr:abP):Prop:=∃(A:Option Addr) (n c:Nat) (L:List (Pk×Hs)) (a:Nat),lv= .slice A n c/\zv= .int .i64 a/\RowI w1 wr A n c L/\abQ w1 wr/\n<=a/\a<=s.size/\RES=((smG v mp (s.extract a s.size) a n (L.map Prod.fst)).1,(smG v mp (s.extract a s.size) a n (L.map Prod.fst)).2.2.1,(smG v mp (s.extract a s.size) a n (L.map Prod.fst)).2.2.2.2)
theorem WS(v mp md:Int)(s:abO)(w:abP)(hs:s.size<=10000000000):Calls prog 6 #[.int .i64 v,zW mp md,.string s] w (Vs (lmS v mp md s) w):=by
 have HS:=aa hs;have HB:=aa ((aq w.heap.size w).alloc (ac _) (.cells #[.int .i64 mp,.int .i64 md] 23));have D:=aa (Bk.fresh w 23 #[.int .i64 mp,.int .i64 md]);have ab:=aa (WU mp md);have t:Hid (YG v=decide (v=4\/v=5)):=aa rfl;obtain⟨u,p⟩:∃R,lmS v mp md s=R:=⟨_,rfl⟩;rw[p];have ad:=aa p;unfold zW at*;clear hs p;go_enter func6,ntmps6;go_upto_region 1 with fail
 go_cut [22] (λz l=>z= .bool (!nF v mp md)/\abQ w l/\Bk l w.heap.size 23 #[.int .i64 mp,.int .i64 md])
 case first=>
  have S:(w.alloc (.cells #[.int .i64 mp,.int .i64 md] 23)).cell? ⟨w.heap.size,0,none⟩=some (.int .i64 mp):=D.o.cell 0;have aG:(w.alloc (.cells #[.int .i64 mp,.int .i64 md] 23)).cell? ⟨w.heap.size,1,none⟩=some (.int .i64 md):=D.o.cell 1;go_wp2_with fail;refine Yg (ab.o _) λr hb=>?_;have b:=aa (Yf HB.o hb);have h:=aa (Yh D.o hb);clear hb S aG;by_cases j:WZ mp md=true;rotate_left
  ·have d:Hid (nF v mp md=false):=aa (by rw[WM,Bool.eq_false_iff.2 j,ru]);rw[Xd j];clear j;go_wp2;go_meet
   case rel=>exact⟨by rw[d.o];rfl,b.o,h.o⟩
  rw[Xp j];by_cases B:v=4
  ·have d:Hid (nF v mp md=true):=aa (by rw[WM,j,t.o,B];rfl);have e4:(v !=4)=false:=by rw[B];rfl
   clear j B;go_wp2;go_meet
   case rel=>exact⟨by rw[d.o];rfl,b.o,h.o⟩
  have e4:(v !=4)=true:=aA.2 B;by_cases H:v=5
  ·have d:Hid (nF v mp md=true):=aa (by rw[WM,j,t.o,H];rfl);have e5:(v !=5)=false:=by rw[H];rfl
   clear j B H;go_wp2;go_meet
   case rel=>exact⟨by rw[d.o];rfl,b.o,h.o⟩
  ·have d:Hid (nF v mp md=false):=aa (by rw[WM,j,t.o,ah (by omega)];rfl);have e5:(v !=5)=true:=aA.2 H;clear j B H;go_wp2;go_meet
   case rel=>exact⟨by rw[d.o];rfl,b.o,h.o⟩
 obtain⟨rfl,ai,an⟩:=hcut;obtain⟨r,a1⟩:∃x,x=wc:=⟨_,rfl⟩;subst a1;have b:=aa ai;have h:=aa an
 clear ai an HB D ab t;by_cases f:nF v mp md=true;rotate_left
 ·have d:Hid (u=([],0,2)):=aa (by rw[<-ad.o];exact XQ f s);have aN:Hid (RowI w r none 0 0 []):=aa (RowI.start w r);rw[Bool.eq_false_iff.2 f];clear f;go_wp2;go_ret3;exact UE aN.o b.o (a:=0) d.o.symm (ag _)
 have k:=Yb f s;have HM:Hid (16<=mp/\mp<=1048576):=aa (by
  rw[WM,eh]at f;have:=aR f.2;omega)
 rw[ad.o]at k;have aw:Hid (u=((smG v mp (s.extract 0 s.size) 0 0 []).1,(smG v mp (s.extract 0 s.size) 0 0 []).2.2.1,(smG v mp (s.extract 0 s.size) 0 0 []).2.2.2.2)):=aa (by
  rw[show s.extract 0 s.size=s from eX (by rw[Y9];rfl)];exact k)
 have aO:=aa (fun(a:Nat) W=>Xg v mp (s.extract a s.size) W HM.o (by rw[aj];have:=HS.o;omega));rw[f];clear k f;go_wp2
 go_loopw [6,7] (λlv zv wr=>SpL r v mp s u lv zv wr) (λ_ zv _=>s.size+1- (intOf zv).toNat)
 case atStart=>exact⟨none,0,0,[],0,rfl,rfl,RowI.start r r,aq _ _,ac _,ag _,aw.o⟩
 case round=>
  obtain⟨A,n,c,L,a,rfl,rfl,hI,hB,h1,h2,hF⟩:=hrel;have I0:=aa hI;have B0:=aa hB;have HN:=aa h1;have HA:=aa h2
  obtain⟨⟨P,q,E⟩,hR⟩:∃R,smN v mp (s.extract a s.size)=R:=⟨_,rfl⟩;have m:=aa (XN hF hR);have C:=aa (aO.o a);rw[hR]at C;have F:=aa (Yh h.o hB);clear hI hB h1 h2 hF hR;have b1:(0:Int)<=(a:Int):=by omega
  have b2:(a:Int)<=(s.size:Int):=by have:=HA.o;omega
  have c0:=F.o.cell 0;have a0:=(F.o.alloc (.cells (pkC pk0 hs0) PkT)).cell 0;simp only[ay,aB]at c0 a0;go_upto_region 3 with fail
  go_cut [9,10,11] (λpz nz ez l=>XM wr (P,q,E) pz nz ez l)
  case first=>
   go_region_law ((go_simp;go_at_call 20;refine(C.o _).mono ?_;rintro e w3 ⟨i,rfl,O,J,M⟩;(first| (have bc:=by(with_reducible exact(WR O J M).1)) | skip);(first| (have ao:=by(with_reducible exact(WR O J M).2)) | (have ao:=by(with_reducible exact Xn O J M)))))
   all_goals
    go_wp2;go_meet
    case rel=>with_reducible exact ao
  obtain⟨i,g,rfl,rfl,rfl,hg,Q,am,K,ak⟩:=hcut;obtain⟨l,a2⟩:∃x,x=wc:=⟨_,rfl⟩;subst a2;have KX:=aa Q;have IX:=aa am;have FX:=aa ak
  have I1:=aa (I0.o.below K);have U:=aa (Yf B0.o K);have S:(kZ (.pointer (some ⟨g,0,none⟩))).run prog l= .ok (pkV P i) l:=cf Q;have G:Hid (n<=10000000000):=aa (by have:=HN.o;have:=HA.o;have:=HS.o;omega);clear hg Q am K ak c0 a0 b1 b2 C F;dsimp only at IX FX;by_cases y:E=3
  ·have d:=aa (m.o.1 y);subst y;go_wp2;go_ret3;exact UE (I1.o.wide2 b.o.size) (Yf b.o U.o) d.o.symm G.o
  by_cases Z:E=0;rotate_left
  ·have d:=aa (m.o.2.1 Z y);have e3:(E==3)=false:=ar.2 y;have e0:(E !=0)=true:=aA.2 Z;clear y Z m;go_wp2;go_ret3;exact UE (I1.o.wide2 b.o.size) (Yf b.o U.o) d.o.symm G.o
  subst Z;obtain⟨hq,ae⟩:=m.o.2.2 rfl;have X:Hid (2<=q/\a+q<=s.size):=aa (by have:=HA.o;omega);have aL:Hid (u=((smG v mp (s.extract (a+q) s.size) (a+q) (n+1) ((L++[(P,i)]).map Prod.fst)).1,(smG v mp (s.extract (a+q) s.size) (a+q) (n+1) ((L++[(P,i)]).map Prod.fst)).2.2.1,(smG v mp (s.extract (a+q) s.size) (a+q) (n+1) ((L++[(P,i)]).map Prod.fst)).2.2.2.2)):=aa (by
   rw[Ii];exact ae)
  have Y:=aa (I1.o.below ((aq _ _).alloc (ac _) (.cells (pkC P i) PkT)));have V:=aa (U.o.alloc U.o.size (.cells (pkC P i) PkT));have P3:=aa (IX.o.next ((aq _ _).alloc (ac _) (.cells (pkC P i) PkT)));have R3:=aa (Fs l P i (g:=l.heap.size) rfl);have I:wrap64 ((a:Int)+(q:Int))=((a+q:Nat):Int):=by have:=HS.o;have:=X.o;unfold wrap64;omega
  have av:Hid (n+1<=100000000000):=aa (by have:=G.o;omega);clear y m hq ae;go_upto_region 9 with (at_builtin;refine oE rfl (.tmp 43) (.tmp 45) rfl (w0:=r) (A:=A) (n:=n) (c:=c) (L:=L) rfl Y.o.row V.o.size _ [(P,i)] 1 1 _ rfl rfl (by decide) R3.o av.o ?_;intro g' c' w3 T N af aZ)
  have I4:=aa (Y.o.more T N af (λx hx=>by rw[gA.1 hx];exact P3.o) (λx hx g o e=>by rw[gA.1 hx];exact FX.o.apart (I0.o.row.block e).2));have B4:=aa (kz V.o N V.o.size (λg hg=>(Y.o.row.own hg).1));clear T N af aZ Y V P3 R3 S;go_wp2;go_roundw
  case rel=>exact⟨some ⟨g',0,none⟩,n+1,c',L++[(P,i)],a+q,rfl,(by first| rw[I] | rw[Int.natCast_add]),I4.o,B4.o,by have:=HN.o;have:=X.o;omega,X.o.2,aL.o⟩
  case measure=>
   first| rw[I] | rw[<-Int.natCast_add]
   simp only[intOf,dN];have:=X.o;omega
end
section
theorem RH(v k:Int)(s:abO)(w:abP)(hs:s.size<=140737488351232):
  Calls prog 80 #[.int .i64 v,.int .i64 k,.string s] w (mu (gX v k s) w):=by
 have f:=aa hs;have g:=aa ((aq w.heap.size w).alloc (ac _) (.cells (pkC pk0 hs0) PkT));have j:=aa (Bk.fresh w PkT (pkC pk0 hs0));have U:=aW j.o;go_enter func80,ntmps80;go_wp2_with fail;refine(pS v _).mono ?_;rintro e W ⟨rfl,rfl⟩;cases D:YG v
 ·have E:Hid (gX v k s=(pk0,2)):=aa (by have b:jR v k=2:=LF (λx=>by have h2:=Gy (show decide (v=4\/v=5)=false from D);exact h2 x.2);unfold gX;rw[b];rfl);clear D;go_wp2;refine abZ (aI rfl _ rfl (cO j.o _ _)) rfl ?_;exact YY E.o (YQ g.o g.o.size (ac _) _ _)
 have F:=aR (show decide (v=4\/v=5)=true from D);by_cases Q:k<12
 ·have E:Hid (gX v k s=(pk0,2)):=aa (by have b:jR v k=2:=LF (λx=>by omega);unfold gX;rw[b];rfl);clear D F;go_wp2;refine abZ (aI rfl _ rfl (cO j.o _ _)) rfl ?_;exact YY E.o (YQ g.o g.o.size (ac _) _ _)
 have d4:decide (k<(12:Int))=false:=ah Q;by_cases Y:15<k
 ·have E:Hid (gX v k s=(pk0,2)):=aa (by have b:jR v k=2:=LF (λx=>by omega);unfold gX;rw[b];rfl);clear D Q F;go_wp2;refine abZ (aI rfl _ rfl (cO j.o _ _)) rfl ?_;exact YY E.o (YQ g.o g.o.size (ac _) _ _)
 have d7:decide ((15:Int)<k)=false:=ah Y;by_cases o:k=15
 focus
  have aA:(k==15)=true:=aK.2 o;by_cases B:v=4
  ·have e4:(v==4)=true:=aK.2 B;have E:Hid (gX v k s=(pk0,8)):=aa (by have b:jR v k=8:=NH ⟨o,B⟩;unfold gX;rw[b];rfl);clear D Q Y F o B;go_wp2;refine abZ (aI rfl _ rfl (cO j.o _ _)) rfl ?_;exact YY E.o (YQ g.o g.o.size (ac _) _ _)
  have e4:(v==4)=false:=ar.2 B;have HK:Hid (jR v k=0):=aa (aao ⟨by omega,F⟩ (λx=>B x.2));have m:=aa (SQ (s:=s) HK.o);clear D Q Y F o B U
 rotate_left;have aA:(k==15)=false:=ar.2 o;have HK:Hid (jR v k=0):=aa (aao ⟨by omega,F⟩ (λx=>o x.1));have m:=aa (SQ (s:=s) HK.o);clear D Q Y F o U
 all_goals
  go_wp2_with fail;refine(QN s _ (by have:=f.o;omega)).mono ?_;rintro e W ⟨rfl,h,C⟩;have ag:(w.alloc (.cells (pkC pk0 hs0) PkT)).heap.size=w.heap.size+1:=by simp
  have ae:=aa (Yf g.o C);have ay:=aa (Yh j.o C)
  rw[ag]at h⊢;have J:=aa h;clear h C ag;have HZ:=aa J.o.lt;have O:Hid (RK w w.heap.size W.heap.size (w.heap.size+1) k 0 0 [] none 0 s 0 0 (W.alloc (.cells (pkC (aP k 0 0 []) hs0) PkT))):=aa
   ⟨ae.o.alloc ae.o.size _,ay.o.alloc _,Bk.fresh _ _ _,⟨J.o.1.alloc _,J.o.2⟩,Rd.nil _ _ _ _,ac _,⟨by have:=HZ.o;omega,by omega,by have:=HZ.o;omega⟩,ac _,by have:=HZ.o;omega,by omega⟩
  go_wp2_with fail;rw[yP];refine(G7 v k _).mono ?_;rintro e w2 ⟨rfl,rfl⟩;have HQ:Hid (Rr v k s=aP k 0 (QJ v k s).1 (QJ v k s).2.1):=aa rfl;have G:Hid (QJ v k s=if Ih v k=true then(0,[],0,0)else Qu v k s 0 0):=aa rfl;have i:=aa (SU (v:=v) (k:=k) f.o);cases hp:Ih v k
  focus
   have N:Hid (QJ v k s=Qu v k s 0 0):=aa (by rw[G.o,hp];rfl);clear hp G;go_wp2_with fail;refine(QV v k (w.heap.size+1) 0 s 0 _ O.o.cur f.o).mono ?_;rintro X x1 ⟨A,q,rfl,I,hr,h,u⟩;rw[<-N.o]at I hr h⊢;generalize QJ v k s=R at*;obtain⟨c,l,a2,e2⟩:=R;simp only at I hr h HQ m⊢;rw[HQ.o]at m i;have M:=i;have P:=aa (O.o.turn h u);have I5:=aa (P.o.put (c':=c) hr I);have aJ:=P.o.pk.free 21;have aB:=P.o.pk.cell 21;have aL:=P.o.pk.free 24;have aC:=P.o.pk.cell 24;rw[YB]at aB;rw[bR]at aC;clear I hr h u;generalize T:W.heap.size=gp at*;clear T;have f:=cf (I5.o.pk.drewN 1);go_wp2_with fail;refine je (λV=>(kZ (.pointer (some ⟨gp,0,none⟩))).run prog V= .ok (pkV (aP k 0 c l) {hs0 with props:=⟨A,q⟩}) V) [5] (by kernel_rfl) ?_;refine Yi 0 [5] rfl f ?_;refine Yi 1 [5] rfl f ?_;refine Yi 2 [4,5] rfl f ?_;refine Yi 3 [4,5] rfl f ?_;refine Up 4 rfl (λK b=>?_);go_simp;go_at_call 128;refine Yg (IY v (aP k 0 c l) _ _ (I5.o.drewN 1).into M.o) λz1 C=>?_;have n:=aa ((I5.o.drewN 1).below C);clear C f
   have f:=cf n.o.pk;go_simp;refine b.out _ _ (λ_=>f) ?_;clear b K;refine Up 5 rfl (λK b=>?_);go_simp;go_at_call 115;refine(QF (w.heap.size+1) a2 s e2 (fH v (aP k 0 c l)) (aP k 0 c l) {hs0 with props:=⟨A,q⟩} _ n.o.cur (λy u=>n.o.stay u)).mono ?_;rintro X z2 ⟨kk,rfl,Z,u⟩;go_simp;refine b.out _ _ (λhn=>absurd (hn 5 (by simp)) (by decide)) (mc (d:=5) (by simp) _ _ _ _ (by kernel_rfl) ?_);clear b K f;have H:=aa (QI (p:=aP k 0 c l) (t:=s) (a:=a2) (e:=e2) (x:=fH v (aP k 0 c l)) rfl rfl);obtain⟨R,hR⟩:∃R,Qx (aP k 0 c l) s a2 e2 (fH v (aP k 0 c l))=R:=⟨_,rfl⟩
  rotate_left
  focus
   have N:Hid (QJ v k s=(0,[],0,0)):=aa (by rw[G.o,hp];rfl);clear hp G;rw[HQ.o,N.o]at m i;simp only at m i;have M:=i;generalize T:W.heap.size=gp at*;clear T;have f:=cf (O.o.pk.drewN 1);go_wp2_with fail;refine je (λV=>(kZ (.pointer (some ⟨gp,0,none⟩))).run prog V= .ok (pkV (aP k 0 0 []) hs0) V) [5] (by kernel_rfl) ?_;refine Yi 0 [5] rfl f ?_;refine Yi 1 [5] rfl f ?_;refine Yi 2 [4,5] rfl f ?_;refine Yi 3 [4,5] rfl f ?_;refine Up 4 rfl (λK b=>?_);go_simp;go_at_call 128;refine Yg (IY v (aP k 0 0 []) _ _ (O.o.drewN 1).into M.o) λz1 C=>?_;have n:=aa ((O.o.drewN 1).below C);clear C f
   have f:=cf n.o.pk;go_simp;refine b.out _ _ (λ_=>f) ?_;clear b K;refine Up 5 rfl (λK b=>?_);go_simp;go_at_call 115;refine(QF (w.heap.size+1) 0 s 0 (fH v (aP k 0 0 [])) (aP k 0 0 []) hs0 _ n.o.cur (λy u=>n.o.stay u)).mono ?_;rintro X z2 ⟨kk,rfl,Z,u⟩;go_simp;refine b.out _ _ (λhn=>absurd (hn 5 (by simp)) (by decide)) (mc (d:=5) (by simp) _ _ _ _ (by kernel_rfl) ?_);clear b K f;have H:=aa (QI (p:=aP k 0 0 []) (t:=s) (a:=0) (e:=0) (x:=fH v (aP k 0 0 [])) rfl rfl);obtain⟨R,hR⟩:∃R,Qx (aP k 0 0 []) s 0 0 (fH v (aP k 0 0 []))=R:=⟨_,rfl⟩
  rotate_left
  all_goals
   rw[hR]at Z m H⊢;clear hR;have az:Hid (∀y,z2.grownBy y (some w.heap.size)->PkIn y y.heap.size R.1 kk):=aa (λy hy=>qD Z H.o.1 H.o.2 (n.o.res.mods (S:=λz=>z=w.heap.size+1) (qb u rfl) (by omega)) (dY _ _) hy);have L:=aa (n.o.done (r:=R) Z u az.o);have U:=aW (n.o.res.mods (S:=λz=>z=w.heap.size+1) (qb u rfl) n.o.ne.2.1);refine Yj 6 rfl ?_;refine Yj 7 rfl ?_;refine Uq 8 rfl (λK b=>?_);go_simp;refine b.out _ _ ?_;clear b K;refine Uq 9 rfl (λK b=>?_);go_simp;refine b.out _ _ ?_;clear b K;refine QB (by kernel_rfl) ?_ _;go_wp2;refine abZ (aI rfl _ rfl L.o.2.1) rfl ?_;rw[m.o];exact⟨kk,rfl,L.o.2.2,L.o.1⟩
end
