/- Parts: TlA, Laid, Goes, LimP, OpenI, OpenR, OpenL. -/
import Derived.Test.YtemooicddjimbaaGreatDoorTlG0SsC
import Derived.Test.YtemooicddjimbaaGreatDoorTlG0MSubR
import Derived.Test.YtemooicddjimbaaGreatDoorCards
import Derived.Test.YtemooicddjimbaaGreatDoorTie
import Derived.ChangeVars
import Derived.LaidLaws
import Derived.LaidHandle
import Derived.SevenTiedAt
import Derived.Seven
set_option maxRecDepth 10000
set_option maxHeartbeats 8000000
namespace Go.Proofs.YtemooicddjimbaaGreatDoor
open Go.RowKit Go.Proofs.Tryz
section
attribute [local go_sem ↓] bD bF bH bI bu
attribute [local go_sem] bc aD bh bg bK bJ bd aY be aO ax cI dC dB dt dj di dA dr dp dn bW co YK bZ YM cz cy cw cu YL YP YB bS bP bR
attribute [local go_sem ↓] xS
attribute [local go_sem] um
theorem ZU(v:Int)(A:Option Addr)(n c:Nat)(L:List (Pk×Hs))(mp md:Int)(Ai:Option Addr)(l:List Int)(ci:Nat)(w:World)(hl:RdK w A n L)(ok:∀x∈L,PkOk x.1)(hr:Rd w w.heap.size 1 Ai l.length (iv l)):
  Calls prog 4 #[.int .i64 v,.slice A n c,zW mp md,.slice Ai l.length ci] w fun e w'=>e= .returned (.bool true)/\Below w.heap.size w w':=by
 have HL:=aa hl;have OK:=aa ok;have db:=aa hl.len;have HR:=aa hr
 have aI:=aa ((aq w.heap.size w).alloc (ac _) (.cells #[.int .i64 mp,.int .i64 md] 23));have aO:=aa (Bk.fresh w 23 #[.int .i64 mp,.int .i64 md]);clear hl ok hr;unfold zW;go_enter func4,ntmps4
 go_wp2_with fail
 refine Yg (aag _) fun w1 f=>?_;have J:=aa (Yf aI.o f);have Y:=aa (Yh aO.o f)
 clear f aI aO
 by_cases hn:8<n
 ·have d1:(8:Int)<(n:Int):=by omega
  clear hn;go_wp2;go_ret;exact⟨rfl,J.o⟩
 have d1:(n:Int)<=8:=by omega
 have HN:Hid (n<=8):=aa (by omega);clear hn
 by_cases h1:20<l.length
 ·have d2:(20:Int)<(l.length:Int):=by omega
  clear h1;go_wp2;go_ret;exact⟨rfl,J.o⟩
 have d2:(l.length:Int)<=20:=by omega
 have bj:Hid (l.length<=20):=aa (by omega);clear h1;have c0:w1.cell? ⟨w.heap.size,0,none⟩=some (.int .i64 mp):=Y.o.cell 0;have c1:w1.cell? ⟨w.heap.size,1,none⟩=some (.int .i64 md):=Y.o.cell 1
 go_wp2_with fail
 refine(ZQ v mp md _).mono ?_;rintro e w2 ⟨f,h⟩;have V:=aa (Yf J.o f);have Z:=aa (Yh Y.o f)
 clear c0 c1;have c0:w2.cell? ⟨w.heap.size,0,none⟩=some (.int .i64 mp):=Z.o.cell 0;have c1:w2.cell? ⟨w.heap.size,1,none⟩=some (.int .i64 md):=Z.o.cell 1
 by_cases I:nF v mp md=true
 rotate_left
 ·rw[Fl I]at h;subst h;have aR:=aa I;clear I f J
  go_wp2_with fail
  refine Yg (Zs v mp md _) fun w3 f=>?_;have an:=aa (Yf V.o f);rw[aaU aR.o];clear f c0 c1;go_wp2;go_ret;exact⟨rfl,an.o⟩
 rw[if_pos I]at h;obtain⟨g,rfl,hg,bk⟩:=h;have HV:=aa (tY I);have HM:=aa (ze I)
 have HG:=aa (aC J.o.size hg);have aE:=aa bk
 have aR:=aa I;clear f hg bk I J Y
 go_wp2_with fail
 refine Yg (Zs v mp md _) fun w3 f=>?_;have an:=aa (Yf V.o f);have bl:=aa (Yh Z.o f);have bg:=aa (Yh aE.o f)
 rw[aR.o];clear f c0 c1 V Z aE;have co:Hid (TW w v mp md w.heap.size g L [] none 0 w3):=aa ⟨RowK.start _ _,by simp,bg.o,bl.o,an.o,HG.o⟩;clear an bl bg;go_wp2
 go_loopw [11,12,13] (fun sv gv zv wr=>∃(i:Nat) (T:ByteArray) (G:List (Pk×Hs)) (R:Option Addr) (S:Nat),i<=n/\sv= .string T/\gv= .slice R G.length S/\zv= .int .i64 i/\TW w v mp md w.heap.size g L G R S wr/\T.size<=i*1048576/\G.length<=i/\smG v mp T 0 0 []=(G.map Prod.fst,⟨#[]⟩,T.size,G.length,0)) (fun _ _ zv _=>n- (intOf zv).toNat)
 case atStart=>exact⟨0,⟨#[]⟩,[],none,0,ag _,rfl,rfl,rfl,co.o,ag _,ag _,t7 HV.o 0 0 []⟩
 case round=>
  obtain⟨i,T,G,R,S,hi,rfl,rfl,rfl,hS,hT,bt,F⟩:=hrel;have r:=aa hS;have HI:=aa hi;have N:=aa (And.intro hT bt);have B:=aa F
  clear hS hT bt F
  by_cases H:i<n
  ·obtain⟨b,o,p,h,rfl,e1,Q,l1,i1⟩:=(HL.o.below r.o.low).at H;have HP:=aa (OK.o (p,h) (iL e1));have bF:=aa (iL e1);have aL:=aa i1;have ax:=aa l1
   have j:=aa H;have hl:=l1 wr (aq _ _);have b1:(0:Int)<=(i:Int):=by omega
   have b2:(i:Int)<(n:Int):=by omega
   clear e1 i1 l1 Q hi
   go_wp2_with fail
   refine(aav p h _ aL.o HP.o).mono ?_;rintro e w4 ⟨bs,rfl,a3,f⟩;have K:=aa (r.o.below f);have aw:=aa (aL.o.next f)
   have cB:=ax.o w4 f;have aJ:=aa f;clear f hl;cases bs
   ·clear a3;go_wp2;go_ret;exact⟨rfl,K.o.low⟩
   have HZ:=aa (LD v (a3 rfl));clear a3
   go_wp2_with fail
   refine Yg (UI v p h _ aw.o HP.o HZ.o) fun w5 f=>?_;have S2:=aa (K.o.below f);have aM:=aa (aw.o.next f)
   have ao:=aa (Yf aJ.o f);have cC:=ax.o w5 ao.o;clear f cB aJ r K
   go_wp2_with fail
   refine Yg (UO v p h _ aM.o HP.o HZ.o) fun w6 f=>?_;have S3:=aa (S2.o.below f);have b7:=aa (aM.o.next f)
   have bh:=aa (Yf ao.o f);have bx:=ax.o w6 bh.o;clear f cC ao S2 aM aw aL;rw[Qo]
   by_cases hE:mqE v p=0
   rotate_left
   ·have hA:(mqB v p).1=⟨#[]⟩:=by unfold mqB;rw[Fl hE]
    rw[hA];generalize mqE v p=E at*;have e0:(E==0)=false:=ar.2 hE;have e1:(E !=0)=true:=aA.2 hE;have z:wrap64 ((i:Int)+1)=((i+1:Nat):Int):=by have:=HN.o;unfold wrap64;omega
    clear hE hA bx;go_wp2
    go_roundw
    case rel=>exact⟨i+1,T,G,R,S,j.o,rfl,rfl,by first| rw[z] | rfl,S3.o,by have:=N.o;omega,by have:=N.o;omega,B.o⟩
    case measure=>(first| rw[z] | skip);(first| simp only[intOf,dN] | simp[intOf]);have:=j.o;omega
   have hA:(mqB v p).1=mqS v p:=by unfold mqB;rw[if_pos hE]
   have HE:=aa hE;rw[hE,hA];clear hE hA;have z:wrap64 ((i:Int)+1)=((i+1:Nat):Int):=by have:=HN.o;unfold wrap64;omega
   have k0:w6.cell? ⟨w.heap.size,0,none⟩=some (.int .i64 mp):=S3.o.lim.cell 0
   by_cases hm:((mqS v p).size:Int)<=mp
   rotate_left
   ·have d3:mp<((mqS v p).size:Int):=by omega
    clear hm bx;go_wp2
    go_roundw
    case rel=>exact⟨i+1,T,G,R,S,j.o,rfl,rfl,by first| rw[z] | rfl,S3.o,by have:=N.o;omega,by have:=N.o;omega,B.o⟩
    case measure=>(first| rw[z] | skip);(first| simp only[intOf,dN] | simp[intOf]);have:=j.o;omega
   have aF:=aa (aba HV.o B.o HE.o (fun q hq=>(HP.o.props q hq).1) (fun q hq=>(HP.o.wp q hq).1) hm);have aQ:Hid ((mqS v p).size<=1048576):=aa (by have:=HM.o.2;omega);obtain⟨X,hX⟩:∃X,mqS v p=X:=⟨_,rfl⟩;rw[hX]at hm aF aQ⊢;have O:Hid (T.size<=8388608):=aa (by have:=N.o;have:=HN.o;have:=j.o;omega);have dc:¬(9223372036854775807<T.size+X.size):=by have:=O.o;have:=aQ.o;omega
   have R6:=aa (Fs w6 p h (g:=w6.heap.size) rfl);have M:=aa (S3.o.below ((aq _ _).alloc (ac _) (.cells (pkC p h) PkT)));have av:Hid (G.length<=8):=aa (by have:=N.o;have:=HN.o;have:=j.o;omega);clear hX S3 ax b7 bh
   go_upto_region 14 with (at_builtin;refine oE rfl (.tmp 104) (.tmp 109) rfl (w0:=w) (A:=R) (n:=G.length) (c:=S) (L:=G) rfl M.o.row M.o.low.size _ [(p,h)] 1 1 _ rfl rfl (by decide) R6.o (by have:=av.o;omega) ?_;intro q c' w7 s ad cy bO)
   have S7:=aa (M.o.app bF.o s ad);have bn:Hid ((T++X).size=T.size+X.size):=aa (by rw[cK]);clear s ad cy bO M R6;go_wp2
   go_roundw
   case rel=>exact⟨i+1,T++X,G++[(p,h)],some ⟨q,0,none⟩,c',j.o,rfl,by rw[List.length_append];rfl,by first| rw[z] | rfl,S7.o,by rw[bn.o];have:=N.o;have:=aQ.o;omega,by rw[List.length_append,qU];have:=N.o;omega,by rw[aF.o,bn.o,Ii,List.length_append];rfl⟩
   case measure=>(first| rw[z] | skip);(first| simp only[intOf,dN] | simp[intOf]);have:=j.o;omega
  ·obtain⟨bz,a1⟩:=r.o.want HL.o;have bo:=aa bz;have aH:=aa a1
   have O:Hid (T.size<=8388608):=aa (by have:=N.o;have:=HN.o;have:=HI.o;omega);have aS:Hid (∀x∈G,PkOk x.1):=aa (fun x hx=>OK.o x (r.o.mem x hx));have bm:=aa ((HR.o.below r.o.low).wider r.o.low.size);have av:Hid (G.length<=8):=aa (by have:=N.o;have:=HN.o;have:=HI.o;omega);obtain⟨d0⟩:(n:Int)<=(i:Int)/\True:=⟨by omega,trivial⟩;clear bz a1 H hi
   go_wp2_with fail
   refine(wY T Ai l ci _ bm.o (by have:=bj.o;omega) (by have:=O.o;omega)).mono ?_;rintro e w4 ⟨cv,rfl,U,f⟩;obtain⟨C,hC⟩:∃C,rr T l=C:=⟨_,rfl⟩;have HJ:Hid (jO C=T):=aa (by rw[<-hC];exact zY T l);have aK:Hid (C.length=l.length+1):=aa (by rw[<-hC];exact aa8 T l);rw[hC,<-aK.o]at U;obtain⟨Ac,cc,rfl,-,-⟩:=jK U;have M:=aa (r.o.below f);have cn:Hid (STp w w4 v mp md g w.heap.size R S G (.slice Ac C.length cc) C ⟨#[]⟩ 0 0 0 w4):=aa ⟨⟨none,0,0,M.o.st,Kp.none _ _⟩,bo.o.below f,fun q o e=>(M.o.row.block e).2,aH.o,M.o.lim,zH U r.o.low.size,M.o.low,M.o.low.size,ac _,HG.o⟩;have b4:Hid (C.length<=21):=aa (by have:=aK.o;have:=bj.o;omega);have aG:Hid (smG v mp (jO C) 0 0 []=(G.map Prod.fst,⟨#[]⟩,T.size,G.length,0)):=aa (by rw[HJ.o];exact B.o);clear U f hC M r bo aH bm HR HL OK B aK d0;go_wp2
   go_loopw [16,18] (fun mv zv wr=>∃(i:Nat) (t:ByteArray) (a k:Nat) (A:Option Addr) (m cm:Nat) (L:List (Pk×Hs)),i<=C.length/\zv= .int .i64 i/\mv= .slice A m cm/\STp w w4 v mp md g w.heap.size R S G (.slice Ac C.length cc) C t a k 0 wr/\RowI w4 wr A m cm L/\(∀y∈L,gG g y)/\smG v mp (jO (C.take i)) 0 0 []=(L.map Prod.fst,t,a,k,0)) (fun _ zv _=>C.length- (intOf zv).toNat)
   case atStart=>exact⟨0,⟨#[]⟩,0,0,none,0,0,[],ag _,rfl,rfl,cn.o,RowI.start _ _,by simp,t7 HV.o 0 0 []⟩
   case round=>
    obtain⟨i,t,a,k,A,m,cm,L,hi,rfl,rfl,hS,s,bv,F⟩:=hrel;have r:=aa hS;have P:=aa s;have AP:=aa bv;have B:=aa F;have aw:=aa hi
    have cg:Hid ((jO (C.take i)).size<=8388608):=aa (aC (mr C i) (by rw[HJ.o];exact O.o));have KS:=aa (kO HM.o.1 F);clear hS s bv F
    by_cases H:i<C.length
    ·obtain⟨b,o,u,rfl,Q,hu,cz⟩:=(DK r.o.chunks).atS H;have HU:Hid (u.size<=8388608):=aa (aC (zX (iL hu)) (by rw[HJ.o];exact O.o));have cf:=aa (wZ hu);have b1:(0:Int)<=(i:Int):=by omega
     have b2:(i:Int)<(C.length:Int):=by omega
     have z:wrap64 ((i:Int)+1)=((i+1:Nat):Int):=by have:=b4.o;unfold wrap64;omega
     have j:=aa H;have CF:=aa (aa9 (T:=jO (C.take i)) (u:=u) r.o P.o AP.o B.o HM.o.1 (by have:=cg.o;omega) (by have:=HU.o;omega));rw[<-cf.o]at CF;clear H hu Q hi
     go_wp2_with fail
     refine CF.o.mono ?_;rintro e' x2 ⟨A2,m2,cs,L2,t2,a2,k2,e2,rfl,bu,ay,ai,ap2,br,D⟩;obtain rfl:=aas D aG.o;have K:=aa bu;have aW:=aa ay;have bp:=aa ai;have bY:=aa ap2;have b0:=aa br;have bK:=aa D
     have ck:=aa (kO HM.o.1 D);have cd:Hid (m+m2<=100000000000):=aa (by
      obtain⟨q1,q2,q3,q4,q5⟩:=kO HM.o.1 D;have h7:=P.o.row.len;have h8:=ai.len;have h9:(jO (C.take (i+1))).size<=8388608:=aC (mr C (i+1)) (by rw[HJ.o];exact O.o);rw[eD,List.length_append]at q2;omega)
     clear bu ay ai ap2 br D CF cz;obtain⟨K',n',cq,h6,h7⟩:=K.o.sb;have ca:Hid (n'=t2.size):=aa (by rw[<-aN];exact h7.len.symm);have H6:=aa h6;clear h6 h7;have q0:=jw (W:=x2) (fun x hx=>(gQ v mp g K' n' cq a2 k2 0 x (Yh H6.o hx)).mono fun _ _ h=>⟨h.1,by rw[<-h.2];exact aq _ _⟩);have k0:=cell_regrown (show x2.cell? ⟨w.heap.size,0,none⟩=some (.int .i64 mp)from K.o.lim.cell 0);have d7:decide (mp<=(n':Int))=false:=ah (by have:=ck.o.1;have:=ca.o;omega);have bi:=aa (fun d os=>below_regrown x2 d os)
     go_upto_region 28 with fail
     refine wp_region_quiet_below (by as_aux_lemma=>kernel_rfl) (by as_aux_lemma=>kernel_rfl) ?_
     repeat (go_big_quiet_step (first| with_reducible exact q0 _ _))
     refine kE ?_;intro _ cE;obtain⟨⟨dq,osq⟩,bS⟩:=cE;subst bS;have KF:=aa (bi.o dq osq);clear q0 k0 bi d7;generalize Sort.grow (redrawn _ dq) osq=wq at*;have S2:=aa (K.o.below KF.o);have ae:=aa (aW.o.below KF.o);have bq:=aa (bp.o.below KF.o)
     clear K aW bp KF r P H6
     go_upto_region 26 with (at_builtin;refine tP rfl (.tmp 138) (.tmp 139) rfl (w0:=w4) (A:=A) (n:=m) (c:=cm) (L:=L) rfl ae.o S2.o.base.2.1 A2 L2 m2 cs rfl bq.o b0.o cd.o ?_;intro A' c' x3 s ad)
     have S3:=aa (S2.o.app ae.o ad);have bL:=aa s;have bZ:Hid (∀y∈L++L2,gG g y):=aa (fun y hy=>(cj.1 hy).elim (AP.o y) (bY.o y));clear s ad S2 ae bq;go_wp2
     go_roundw
     case rel=>exact⟨i+1,t2,a2,k2,A',m+m2,c',L++L2,j.o,by first| rw[z] | rfl,rfl,S3.o,bL.o,bZ.o,bK.o⟩
     case measure=>(first| rw[z] | skip);(first| simp only[intOf,dN] | simp[intOf]);have:=j.o;omega
    ·obtain rfl:i=C.length:=by omega
     have aU:(G.map Prod.fst,(⟨#[]⟩:ByteArray),T.size,G.length,(0:Int))=(L.map Prod.fst,t,a,k,0):=by
      have:=B.o;rw[GK,aG.o]at this;exact this
     simp only[bG,Hj]at aU;obtain⟨bA,rfl,rfl,rfl⟩:=aU;have aV:Hid (L.map Prod.fst=G.map Prod.fst):=aa bA.symm;have OM:Hid (∀x∈L,gz x.1):=aa (fun x hx=>by
      have h1:x.1∈G.map Prod.fst:=by rw[<-aV.o];exact List.mem_map_of_mem hx
      obtain⟨y,hy,e⟩:=jX.1 h1;rw[<-e];exact(aS.o y hy).len)
     have OG:Hid (∀x∈G,gz x.1):=aa (fun x hx=>(aS.o x hx).len);have b8:Hid (L.length=G.length):=aa (by have:=congrArg List.length aV.o;simpa using this);have b9:Hid (m=L.length):=aa P.o.row.len.symm;have CS:=aa (uh A R m G.length cm S L G wr P.o.read r.o.want.read OM.o OG.o (by have:=b9.o;have:=b8.o;have:=av.o;omega) (by have:=av.o;omega));rw[au aV.o]at CS;have b2:(C.length:Int)<=(C.length:Int):=Int.le_refl _;clear bA H B KS
     go_wp2_with fail
     refine CS.o.mono ?_;rintro e' x2 ⟨rfl,f⟩;have K:=aa (r.o.below f);clear f CS r P;obtain⟨Kb,nb,cb,Q,bw⟩:=K.o.sb;obtain rfl:nb=0:=bw.len.symm;have ap:=aa Q;clear Q bw
     go_wp2_with fail
     refine(gQ v mp g Kb 0 cb T.size G.length 0 _ ap.o).mono ?_;rintro e' x3 ⟨rfl,rfl⟩
     go_wp2_with fail
     refine(mV v mp g Kb 0 cb T.size G.length 0 _ ap.o).mono ?_;rintro e' x3 ⟨rfl,rfl⟩
     go_wp2_with fail
     refine(iQ v mp g Kb 0 cb T.size G.length 0 _ ap.o).mono ?_;rintro e' x3 ⟨rfl,rfl⟩
     go_wp2_with fail
     refine(lS v mp g Kb 0 cb T.size G.length 0 _ ap.o).mono ?_;rintro e' x3 ⟨rfl,rfl⟩;go_wp2;go_ret;exact⟨by simp,K.o.low⟩
end
end Go.Proofs.YtemooicddjimbaaGreatDoor
namespace Go.Proofs.YtemooicddjimbaaGreatDoor
open Go.ChangeShapes Go.WideShapes Go.ChangeAt Go.RowKit
open Go.Proofs.Tryz
def vh(c:Array Value):Obj->Obj
 | .cells _ t frozen=>.cells c t frozen
 | o=>o
def firstCells:Array Value:=(Go.Pinned.utf8FirstZ.map fun(n:Nat)=>Value.int .u8 n).toArray
def wI:Array Value:=#[.int .u8 128,.int .u8 191,.int .u8 160,.int .u8 191,.int .u8 128,.int .u8 159,.int .u8 144,.int .u8 191,.int .u8 128,.int .u8 143,
 .int .u8 0,.int .u8 0,.int .u8 0,.int .u8 0,.int .u8 0,.int .u8 0,.int .u8 0,.int .u8 0,.int .u8 0,.int .u8 0,.int .u8 0,.int .u8 0,.int .u8 0,.int .u8 0,.int .u8 0,.int .u8 0,.int .u8 0,.int .u8 0,.int .u8 0,.int .u8 0,.int .u8 0,.int .u8 0]
noncomputable def l7(os:Os):World:=
 {World.holding prog os ⟨#[],#[],[]⟩with heap:=((World.holding prog os ⟨#[],#[],[]⟩).heap.modify 1 (vh firstCells)).modify 2 (vh wI)}
theorem qu(os:Os)(args:Array Value):laidMetH prog [("unicode/utf8.acceptRanges",Rows.laid_unicode_utf8_acceptRanges),("unicode/utf8.first",Rows.laid_unicode_utf8_first)] ((l7 os).forCall (fun _ _=>0) ⟨#[],args,[]⟩).memory:=
 laidMetH_of_parts (laidMet_of_run' 8 (by kernel_rfl) (by kernel_rfl)) (by kernel_rfl)
end Go.Proofs.YtemooicddjimbaaGreatDoor
namespace Go.Proofs.YtemooicddjimbaaGreatDoor
open Go
open Go.Proofs.Tryz
theorem abn:prog.funcs.toList.all (fun f=>!f.goes)=true:=by kernel_rfl
theorem aaR{P:Program}(h:P.funcs.toList.all (fun f=>!f.goes)=true)(f:FuncId):P.goes f=false:=by
 have b:∀a∈P.funcs.toList,Func.goes a=false:=fun a d=>by
  have:=dL.1 h a d
  simpa using this
 have c:P.funcs.any Func.goes=false:=by
  rw[Array.any_eq_false'];intro x j;rw[b x (by simpa using j)]
  decide
 unfold Program.goes;rw[c,ru,Bool.or_false,List.any_eq_false];intro g _;cases e:P.funcs[g]? with
 | none=>simp
 | some a=>
   have i:a∈P.funcs.toList:=by simpa using qW e
   simp[b a i]
theorem aai{P:Program}(h:P.funcs.toList.all (fun f=>!f.goes)=true){c:OpenClaim}(hs:c.start= .entering):false=c.goesBy P:=by
 unfold OpenClaim.goesBy Program.goesAt Program.goesFrom;rw[hs];cases P.funcNamed c.func with
 | none=>rfl
 | some f=>simp[aaR h f]
end Go.Proofs.YtemooicddjimbaaGreatDoor
namespace Go.Proofs.YtemooicddjimbaaGreatDoor
open Go.RowKit Go.Proofs.Tryz
structure PlOk (n:Nat) (L:List Int):Prop where
 rng:∀z∈L,0<=z/\z<=(n:Int)
 asc:L.Pairwise fun a b=>decide (a<=b)=true
def lkA(L:List Int)(i:Nat):Nat:=if i=0 then 0 else(L.getD (i- 1) 0).toNat
def lkZ(L:List Int)(n i:Nat):Nat:=if i<L.length then(L.getD i 0).toNat else n
theorem vc(L:List Int):lkA L 0=0:=if_pos rfl
theorem vd(L:List Int)(i:Nat):lkA L (i+1)=(L.getD i 0).toNat:=by
 unfold lkA;rw[Fl (by omega),Nat.add_sub_cancel]
theorem FH{L:List Int}{n i:Nat}(h:i<L.length):lkZ L n i=lkA L (i+1):=by
 unfold lkZ;rw[if_pos h,vd]
theorem Eu{L:List Int}{n i:Nat}(h:¬i<L.length):lkZ L n i=n:=Fl h
theorem EF{L:List Int}{i:Nat}(h:i<L.length):L.getD i 0=L[i]:=by
 simp[List.getD,List.getElem?_eq_getElem h]
theorem PlOk.at{n:Nat}{L:List Int}(x:PlOk n L){i:Nat}(h:i<L.length):((lkA L (i+1):Nat):Int)=L[i]/\lkA L (i+1)<=n:=by
 have:=x.rng _ (iY h);rw[vd,EF h];omega
theorem PlOk.le{n:Nat}{L:List Int}(x:PlOk n L){i:Nat}(h:i<=L.length):lkA L i<=lkZ L n i/\lkZ L n i<=n:=by
 rcases fj i L.length with a| a
 ·rw[FH a];refine⟨?_,(x.at a).2⟩;rcases dh i with rfl| b
  ·rw[vc];exact ag _
  ·obtain⟨k,rfl⟩:∃k,i=k+1:=⟨i- 1,by omega⟩;have c:=(x.at (show k<L.length by omega)).1;have d:=(x.at a).1;have e:L[k]'(by omega)<=L[k+1]:=by
    have:=List.pairwise_iff_getElem.1 x.asc k (k+1) (by omega) a (by omega)
    simpa using this
   omega
 ·rw[Eu (by omega)];refine⟨?_,ac _⟩;rcases dh i with rfl| b
  ·rw[vc];exact ag _
  ·obtain⟨k,rfl⟩:∃k,i=k+1:=⟨i- 1,by omega⟩;exact(x.at (show k<L.length by omega)).2
end Go.Proofs.YtemooicddjimbaaGreatDoor
namespace Go.Proofs.YtemooicddjimbaaGreatDoor.OI
open Go.Proofs.YtemooicddjimbaaGreatDoor
open Go.ChangeShapes Go.WideShapes Go.ChangeAt Go.RowKit Go.Deep
open Go.Proofs.Tryz
section
variable {H:Type} {enc:TypeId×Value->H} {P:Program} {w:World} {base:Nat} {spare:Nat->Bool} {held:Bool}
def fu(P:Program)(t:TypeId)(d:DataW H):Prop:=∀z∈d.weights P t,z<=reachBytes
theorem fJ{e:TypeId}:∀ {ds:List (DataW H)} {d:DataW H},d∈ds->∀z∈d.weights P e,z∈DataW.weightsAll P e ds
 | [],_,h,_,_=>by simp at h
 | x :: ds,d,h,z,hz=>by
   unfold DataW.weightsAll;rcases ie.1 h with rfl| h
   ·exact cj.2 (.inl hz)
   ·exact cj.2 (.inr (fJ h z hz))
theorem fu.elem{t e:TypeId}{l r:List (DataW H)}(ht:P.underlying t=some (.slice e))(h:fu P t (.slice l r)){d:DataW H}(hd:d∈l):fu P e d:=fun z a=>h z (by
 simp only[DataW.weights,ht];exact kV _ (cj.2 (.inl (fJ hd z a))))
theorem fu.len{t e:TypeId}{l r:List (DataW H)}(ht:P.underlying t=some (.slice e))(h:fu P t (.slice l r)):l.length*P.bytesOf e<=reachBytes:=by
 have:=h ((l.length+r.length)*P.bytesOf e) (by simp[DataW.weights,ht]);exact aC (iH _ (by omega)) this
theorem fu.str{t:TypeId}{s:List UInt8}(h:fu P t (.lit (.string s):DataW H)):s.length<=reachBytes:=h _ (by simp[DataW.weights])
theorem sized_at{ts:List TypeId}{ds:List (DataW H)}(h:(DataW.weightsEach P ts ds).all (· <=reachBytes)=true){j:Nat}{t:TypeId}{d:DataW H}(ht:ts[j]? =some t)(hd:ds[j]? =some d):fu P t d:=fun z a=>by
 have:=dL.1 h _ (DataW.weights_mem_each ht hd z a)
 simpa using this
theorem iA{X:Type}{k:Nat}{C:X->List Value}(hk:∀x,(C x).length=k):∀l:List X,(l.flatMap C).length=l.length*k
 | []=>by simp
 | x :: l=>by
   rw[YS,List.length_append,hk,iA hk l,bM,iK];omega
theorem kQ{X:Type}{k:Nat}{C:X->List Value}(hk:∀x,(C x).length=k):∀(l:List X) (i r:Nat) (h:i<l.length),r<k->(l.flatMap C)[i*k+r]? =(C l[i])[r]?
 | x :: l,0,r,_,hr=>by
   rw[jU,bV,YS,jd (by rw[hk];exact hr)];rfl
 | x :: l,i+1,r,h,hr=>by
   have ih:=kQ hk l i r (by simpa using h) hr;rw[YS,iM (by rw[hk,iK];omega),hk];rw[show(i+1)*k+r- k=i*k+r by rw[iK];omega];exact ih
theorem rX{X:Type}[Inhabited X]{k:Nat}(C:X->List Value)(hk:∀x,(C x).length=k)(hk0:0<k){t e:TypeId}(ht:P.underlying t=some (.slice e))(hc:P.cellsOf e=k)(good:X->Prop)
  (hel:∀(n:Nat) (cs:List Value) (D:DataW H) (Pl:List MemPlace),DataW.trod enc P w base spare held n e cs=some (D,Pl)->fu P e D->(∀x∈Pl,x.block<w.heap.size)->∃x,cs=C x/\good x)
  {fuel:Nat}{cs:List Value}{d:DataW H}{ps:List MemPlace}(h:DataW.trod enc P w base spare held fuel t cs=some (d,ps))(hs:fu P t d)(hlt:∀x∈ps,x.block<w.heap.size):
  ∃(A:Option Addr) (l:List X) (c:Nat),cs=[.slice A l.length c]/\Rd w w.heap.size k A l.length (l.flatMap C)/\(∀x∈l,good x)/\l.length*P.bytesOf e<=reachBytes/\l.length<=c/\c<=maxLen:=by
 rcases open_slice ht h with ⟨rfl,_⟩ | ⟨a,len,cap,m,n,D,Pl,rfl,_,V,Q,G,p,N⟩
 ·exact⟨none,[],0,rfl,Rd.nil _ _ _ _,by simp,by simp,ac _,by unfold maxLen;omega⟩
 ·simp only[bG]at p;obtain⟨rfl,rfl⟩:=p;have T:len<=m:=by rw[G];split<;>omega
  have s:∀i,i<len->∃x,good x/\∀r u,(C x)[r]? =some u->w.cell? (a.add (i*k+r))=some u:=by
   intro i o;obtain⟨z,B,K⟩:=N i (by omega);obtain⟨x,rfl,M⟩:=hel n z _ _ K (hs.elem ht (jX.2 ⟨i,gn.2 o,rfl⟩)) (fun y S=>hlt y (cj.2 (.inr (ou.2 ⟨i,gn.2 (by omega),S⟩))));refine⟨x,M,fun r u g=>?_⟩;rw[hc]at B;obtain⟨_,U,L⟩:=World.cells?_some B;have R:r<k:=by
    rcases fj r k with h| h
    ·exact h
    ·rw[aG (by rw[hk];exact h)]at g;cases g
   have:=L r R;rw[add_add]at this;rw[this,g]
  obtain⟨f,E⟩:=choose_lt s;have b:((List.range len).map f).length=len:=by simp
  refine⟨some a,(List.range len).map f,cap,by rw[b],?_,?_,?_,by omega,Q⟩
  ·by_cases J:len=0
   ·subst J;exact Rd.nil _ _ _ _
   ·rw[b];refine Rd.of_addr (by rw[iA hk,b]) ?_ ?_
    ·have v:(MemPlace.cell a.block a.off)∈MemPlace.row a (m*P.cellsOf e):=by
      refine MemPlace.mem_row.2 ⟨0,?_,by simp⟩;rw[hc];exact Nat.mul_pos (by omega) hk0
     exact hlt _ (cj.2 (.inl v))
    ·intro j u g;have O:j<len*k:=by
      rcases fj j (len*k)with h| h
      ·exact h
      ·rw[aG (by rw[iA hk,b];exact h)]at g;cases g
     have q:j/ k<len:=iJ (by rw[eV];exact O);have I:j% k<k:=iI _ hk0;have e:j=j/ k*k+j% k:=by rw[eV];exact(Nat.div_add_mod j k).symm
     rw[e,kQ hk _ _ _ (by rw[b];exact q) I]at g;rw[e];exact(E _ q).2 _ _ (by simpa using g)
  ·intro x p;obtain⟨i,F,rfl⟩:=jX.1 p;exact(E i (gn.1 F)).1
  ·have:=hs.len ht
   simpa using this
theorem Ms{fs:Array Field}{n:Nat}{cs:List Value}{xs:List (DataW H×List MemPlace)}(hone:oneCellFields P fs=true)
  (hf:∀(i:Nat) (f:Field),fs[i]? =some f->DataW.trod enc P w base spare held n f.type ((cs.drop f.offset).take (P.cellsOf f.type))=xs[i]?):
  ∀(i:Nat) (f:Field),fs[i]? =some f->DataW.trod enc P w base spare held n f.type ((cs.drop i).take 1)=xs[i]? :=by
 intro i f a;obtain⟨c,b⟩:=hone_of hone i f a;have:=hf i f a;rwa[c,b]at this
end
section
variable {H:Type} {enc:TypeId×Value->H} {w:World} {base:Nat} {spare:Nat->Bool} {held:Bool}
theorem CH{X:Type}(c:X->Value)(l:List X):l.flatMap (fun z=>[c z])=l.map c:=by
 induction l with
 | nil=>rfl
 | cons z l ih=>simp only[YS,ih];rfl
theorem open_intsV{r:Reach}{b0:Nat}{v:Value}{d:DataW H}{ps:List MemPlace}(hval:Value.okWide prog w r b0 24 v)(hd:DataW.Trod enc prog w base spare held 24 v d ps)(hs:fu prog 24 d)(hlt:∀x∈ps,x.block<w.heap.size):
  ∃(A:Option Addr) (l:List Int) (c:Nat),v= .slice A l.length c/\Rd w w.heap.size 1 A l.length (iv l)/\(∀z∈l,(Lit.int .i64 z).wf=true)/\l.length<=140737488351232/\l.length<=c/\c<=maxLen:=by
 obtain⟨a,len,cap,rfl⟩:=okWide_slice underlying24 hval;obtain⟨f,p⟩:=hd;obtain⟨A,l,c,b,e,g,i,j,m⟩:=rX (X:=Int) (k:=1) (fun z=>[Value.int .i64 z]) (fun _=>rfl) (by omega) underlying24 (by kernel_rfl) (fun z=>(Lit.int .i64 z).wf=true)
  (fun n t D s h hs _=>by obtain⟨z,rfl,_,q⟩:=GB underlying3 h;exact⟨z,rfl,q⟩) p hs hlt
 rw[CH]at e;simp[Value.cells]at b;obtain⟨rfl,rfl,rfl⟩:=b;refine⟨a,l,cap,rfl,e,g,?_,j,m⟩;have o:prog.bytesOf 3=8:=by kernel_rfl
 rw[o,reachBytes]at i;omega
end
end Go.Proofs.YtemooicddjimbaaGreatDoor.OI
namespace Go.Proofs.YtemooicddjimbaaGreatDoor
open Go.ChangeShapes Go.WideShapes Go.ChangeAt Go.RowKit Go.Deep
open Go.Proofs.Tryz
set_option maxRecDepth 100000
instance:Inhabited (Pk×Hs):=⟨(pk0,hs0)⟩
section
variable {H:Type} {enc:TypeId×Value->H} {w:World} {base:Nat} {spare:Nat->Bool} {held:Bool}
theorem Z6{r:Reach}{b0:Nat}{v:Value}{d:DataW H}{ps:List MemPlace}(hval:Value.okWide prog w r b0 27 v)(hd:DataW.Trod enc prog w base spare held 27 v d ps)(hs:fu prog 27 d)(hlt:∀x∈ps,x.block<w.heap.size):
  ∃(A:Option Addr) (L:List (Pk×Hs)) (c:Nat),v= .slice A L.length c/\RdK w A L.length L/\∀x∈L,PkOk x.1:=by
 obtain⟨a,len,cap,rfl⟩:=okWide_slice underlying27 hval;obtain⟨i,l⟩:=hd;obtain⟨A,L,c,f,j,g,-⟩:=rX (X:=Pk×Hs) (k:=25) (fun x=>(pkC x.1 x.2).toList) kM (by omega) underlying27 (by kernel_rfl) (fun x=>PkIn w w.heap.size x.1 x.2/\PkOk x.1)
  (fun n t D s h hs o=>by obtain⟨p,k,e,m,q⟩:=Oj h hs o;exact⟨(p,k),e,m,q⟩) l hs hlt
 simp[Value.cells]at f;obtain⟨rfl,rfl,rfl⟩:=f;exact⟨a,L,cap,rfl,⟨j,fun x b=>(g x b).1⟩,fun x b=>(g x b).2⟩
end
end Go.Proofs.YtemooicddjimbaaGreatDoor
namespace Go.Proofs.YtemooicddjimbaaGreatDoor
open Go.ChangeShapes Go.WideShapes Go.ChangeAt Go.RowKit Go.Deep
open Go.Proofs.Tryz
set_option maxRecDepth 100000
section
variable {H:Type} {enc:TypeId×Value->H} {w:World} {base:Nat} {spare:Nat->Bool} {held:Bool}
theorem BU{n:Nat}{cs:List Value}{D:DataW H}{Pl:List MemPlace}(h:DataW.trod enc prog w base spare held n 23 cs=some (D,Pl)):∃a b:Int,cs=[.int .i64 a,.int .i64 b]:=by
 obtain⟨p,s,rfl,i,c,j,g⟩:=Iy underlying23 h;simp only[bG]at i;obtain⟨rfl,rfl⟩:=i;have f:prog.cellsOf 23=2:=by kernel_rfl
 rw[f]at c
 match cs,c with
 | [c0,c1],_=>
   match p,j with
   | [y0,y1],_=>
     have l:=vz g 0 (t:=3) (o:=0) (k:=1) (by kernel_rfl);have m:=vz g 1 (t:=3) (o:=1) (k:=1) (by kernel_rfl);obtain⟨q,d,rfl,_⟩:=GB underlying3 l;obtain⟨r,e,rfl,_⟩:=GB underlying3 m;simp only[Yl,ji,GG,GZ,gY,Hj]at d e;subst d e;exact⟨q,r,rfl⟩
theorem te{r:Reach}{b0:Nat}{v:Value}{d:DataW H}{ps:List MemPlace}(hval:Value.okWide prog w r b0 23 v)(hd:DataW.Trod enc prog w base spare held 23 v d ps):
  ∃a b:Int,v= .agg #[.int .i64 a,.int .i64 b]:=by
 have i:∃c,v= .agg c:=by
  simp only[Value.okWide,show prog.underlying 23=_ from underlying23]at hval;obtain⟨c,h,_⟩:=hval;exact⟨c,h⟩
 obtain⟨c,rfl⟩:=i;obtain⟨f,g⟩:=hd;obtain⟨a,b,e⟩:=BU g;refine⟨a,b,?_⟩;have e:c.toList=(#[.int .i64 a,.int .i64 b]:Array Value).toList:=e;rw[oz.1 e]
end
end Go.Proofs.YtemooicddjimbaaGreatDoor
