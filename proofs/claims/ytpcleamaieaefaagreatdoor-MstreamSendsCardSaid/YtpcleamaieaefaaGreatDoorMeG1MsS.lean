/- A part of what the laws stand on: MsS, OpenR. -/
import Derived.Test.YtpcleamaieaefaaGreatDoorMeG1MSubR
set_option maxRecDepth 10000
set_option maxHeartbeats 8000000
namespace Go.Proofs.YtpcleamaieaefaaGreatDoor
open Go.RowKit
attribute [local go_sem ↓] bD bF bH bI bu
attribute [local go_sem] bc aD bh bg bK bJ bd aY be aO ax cI dC dB dt dj di dA dr dp dn bW co bO bZ bX cz cy cw cu ct cC cn bS bP bR
structure SSnd (w:World) (v:Int) (g:Nat) (t:ByteArray) (a k:Nat) (x:World):Prop where
 st:∃K n c,Bk x g SmT (smC v 1024 K n c a k 0)∧Kp w x K n c (ls t)
 low:Below w.heap.size w x
 base:w.heap.size≤g
section
variable {w:World} {v:Int} {g:Nat} {t:ByteArray} {a k:Nat} {x y:World}
theorem SSnd.below (s:SSnd w v g t a k x) (hb:Below x.heap.size x y):SSnd w v g t a k y:=by
 obtain⟨K,n,c,h1,h2⟩:=s.st;exact⟨⟨K,n,c,h1.below hb h1.lt,h2.below hb⟩,s.low.trans (hb.mono s.low.size),s.base⟩
theorem SSnd.fed (s:SSnd w v g t a k x) {K:Option Addr} {n c:Nat} (h5:Kp w x K n c (ls t)) {r:List Pk×ByteArray×Nat×Nat×Int} {A:Option Addr} {m cm:Nat} {L:List (Pk×Hs)} {K2:Option Addr} {n2 c2:Nat} (F:FO w x g (Value.slice K n c).ownBlock v 1024 r y A m cm L K2 n2 c2) (he:r.2.2.2.2=0):SSnd w v g r.2.1 r.2.2.1 r.2.2.2.1 y:=
 ⟨⟨K2,n2,c2,by rw[←he];exact F.bk,F.kp⟩,ex s.low s.base s.low.size h5 (ac _) F.mods,s.base⟩
end
def ssT (X:ByteArray) (j:Nat):ByteArray:=if j<X.size then X.extract 0 j else⟨#[]⟩
def ssA (X:ByteArray) (a j:Nat):Nat:=if j<X.size then a else a+X.size
def ssK (X:ByteArray) (k j:Nat):Nat:=if j<X.size then k else k+1
theorem Nb {v:Int} {p:Pk} (h:mqE v p=0) (hn:∀q∈p.props,q.n<4294967296) (hw:∀q∈p.will.props,q.n<4294967296) (hm:(mqS v p).size≤400) {j:Nat} (hj:j+1<(mqS v p).size) (a k:Nat):
  smG v 1024 ((mqS v p).extract 0 j++(mqS v p).extract j (j+1)) a k []=([],(mqS v p).extract 0 (j+1),a,k,0):=by
 have he:(mqS v p).extract 0 j++(mqS v p).extract j (j+1)=(mqS v p).extract 0 (j+1):=eX (by
  rw[fe,ix,ix,db,List.take_add])
 rw[he];exact t6 (OV h hn hw (by omega) hj) a k []
theorem Nc {v:Int} (hv:ba v=true) {p:Pk} (h:mqE v p=0) (hn:∀q∈p.props,q.n<4294967296) (hw:∀q∈p.will.props,q.n<4294967296) (hm:(mqS v p).size≤400) {j:Nat} (hj:j+1=(mqS v p).size) (a k:Nat):
  smG v 1024 ((mqS v p).extract 0 j++(mqS v p).extract j (j+1)) a k []=([p],⟨#[]⟩,a+(mqS v p).size,k+1,0):=by
 have he:(mqS v p).extract 0 j++(mqS v p).extract j (j+1)=mqS v p:=eX (by
  rw[fe,ix,db,←List.take_add,hj,bt (by rw[aN];exact ac _)])
 have hf:=M7 (most:=1024) h hn hw (by omega);rw[he,fK,hf,if_pos rfl];have hx:(mqS v p).extract (mqS v p).size (mqS v p).size=⟨#[]⟩:=eX (by
  rw[m9,gD (by rw[aN];exact ac _)];rfl)
 dsimp only;rw[hx,t7 hv];rfl
theorem JJ (v:Int) (A:Option Addr) (n c:Nat) (L:List (Pk×Hs)) (w:World) (hl:RdK w A n L) (ok:∀x∈L,PkOk x.1):
  Calls Tryz.prog 6 #[.int .i64 v,.slice A n c] w fun e w'=>e= .returned (.bool true)∧Below w.heap.size w w':=by
 have HL:=aa hl;have OK:=aa ok
 clear hl ok
 go_enter Tryz.func6,Tryz.ntmps6
 go_wp2_with fail
 refine(lA _).mono ?_;rintro e w1 ⟨rfl,hb⟩;have HB1:=aa hb;clear hb
 by_cases hn:10<n
 ·have d1:(10:Int)<(n:Int):=by omega
  clear hn
  go_wp2
  go_ret
  exact⟨rfl,HB1.out⟩
 have d1:(n:Int)≤10:=by omega
 have HN:Hid (n≤10):=aa (by omega);clear hn
 go_wp2_with fail
 refine(fm v 1024 0 _).mono ?_;rintro e w2 ⟨hb,h⟩;have HB2:=aa (HB1.out.trans (hb.mono HB1.out.size))
 by_cases hok:nF v 1024 0=true
 rotate_left
 ·rw[ae hok]at h;subst h;clear hok hb HB1
  go_wp2
  go_ret
  exact⟨rfl,HB2.out⟩
 rw[if_pos hok]at h;obtain⟨g,rfl,hg,bk⟩:=h;have HV:=aa (tY hok);have SS2:Hid (SSnd w v g ⟨#[]⟩ 0 0 w2):=aa ⟨⟨none,0,0,bk,Kp.none _ _⟩,HB2.out,aC HB1.out.size hg⟩;clear hb hg bk hok HB1 HB2
 go_wp2
 go_loopw [7] (fun zv wr=>∃i a k:Nat,i≤n∧zv= .int .i64 i∧a≤i*400∧k≤i∧SSnd w v g ⟨#[]⟩ a k wr) (fun zv _=>n- (intOf zv).toNat)
 case atStart=>exact⟨0,0,0,ag _,rfl,ag _,ag _,SS2.out⟩
 case round=>
  obtain⟨i,a,k,hi,rfl,ha,hk,hS⟩:=hrel;have S0:=aa hS;have HI:=aa hi;have HAK:=aa (And.intro ha hk)
  clear hS ha hk
  by_cases hlt:i<n
  ·obtain⟨b,o,p,h,rfl,e1,hb1,l1,i1⟩:=(HL.out.below S0.out.low).at hlt;have HP:=aa (OK.out (p,h) (iL e1));have HI1:=aa i1;have HL1:=aa l1;have HE1:=aa e1
   have HILT:=aa hlt;have hl:=l1 wr (aq _ _);have b1:(0:Int)≤(i:Int):=by omega
   have b2:(i:Int)<(n:Int):=by omega
   clear e1 i1 l1 hb1
   go_wp2_with fail
   refine(Mw p h _ HI1.out HP.out).mono ?_;rintro e w2 ⟨rfl,hb⟩;have S1:=aa (S0.out.below hb);have HI2:=aa (HI1.out.next hb)
   have hl2:=HL1.out w2 hb;have HB2:=aa hb;clear hb hl;cases hL:Ie p
   ·go_wp2
    go_ret
    exact⟨rfl,S1.out.low⟩
   have HZ:=aa (LD v hL);clear hL
   go_wp2_with fail
   refine(Kg v p h _ HI2.out HP.out HZ.out).mono ?_;rintro e w3 ⟨rfl,hb⟩;have S2:=aa (S1.out.below hb);have HB3:=aa (HB2.out.trans (hb.mono HB2.out.size));clear hb hl2 HB2 HI2 S1;rw[Qo]
   by_cases hE:mqE v p=0
   rotate_left
   ·generalize mqE v p=E at*;have e0:(E !=0)=true:=aA.2 hE;clear hE
    go_wp2
    go_roundw
    case rel=>exact⟨i+1,a,k,by omega,by go_num,by have:=HAK.out;omega,by have:=HAK.out;omega,S2.out⟩
    case measure=>simp[intOf];omega
   have hA:(mqB v p).1=mqS v p:=by unfold mqB;rw[if_pos hE]
   have HE:=aa hE;have SM:=aa (fun(hm:(mqS v p).size≤400) (j:Nat) (hj:j+1<(mqS v p).size) a k=>Nb hE (fun q hq=>(HP.out.props q hq).1) (fun q hq=>(HP.out.wp q hq).1) hm hj a k);have SL:=aa (fun(hm:(mqS v p).size≤400) (j:Nat) (hj:j+1=(mqS v p).size) a k=>Nc HV.out hE (fun q hq=>(HP.out.props q hq).1) (fun q hq=>(HP.out.wp q hq).1) hm hj a k);rw[hA,hE];clear hE hA;obtain⟨X,hX⟩:∃X,mqS v p=X:=⟨_,rfl⟩;have HX2:Hid (2≤X.size):=aa (by rw[←hX];exact Em v p);rw[hX]at SM SL⊢;clear hX HE
   by_cases h4:400<X.size
   ·have d2:(400:Int)<(X.size:Int):=by omega
    clear h4
    go_wp2
    go_roundw
    case rel=>exact⟨i+1,a,k,HILT.out,by go_num,by have:=HAK.out;omega,by have:=HAK.out;omega,S2.out⟩
    case measure=>simp[intOf];have:=HILT.out;omega
   have d2:(X.size:Int)≤400:=by omega
   have H4:Hid (X.size≤400):=aa (by omega);clear h4 hlt hi;have SI:Hid (SSnd w v g (ssT X 0) (ssA X a 0) (ssK X k 0) w3):=aa (by
    have h0:0<X.size:=by have:=HX2.out;omega
    unfold ssT ssA ssK;rw[if_pos h0,if_pos h0,if_pos h0,show X.extract 0 0=⟨#[]⟩from eX (by rw[ix];rfl)];exact S2.out)
   go_wp2
   go_loopw [10] (fun jv wr=>∃j:Nat,j≤X.size∧jv= .int .i64 j∧SSnd w v g (ssT X j) (ssA X a j) (ssK X k j) wr) (fun jv _=>X.size- (intOf jv).toNat)
   case atStart=>exact⟨0,ag _,rfl,SI.out⟩
   case round=>
    obtain⟨j,hj,rfl,hSj⟩:=hrel;have J0:=aa hSj;have HJ:=aa hj
    clear hSj
    by_cases hjl:j<X.size
    ·have J1:Hid (SSnd w v g (X.extract 0 j) a k wr):=aa (by
      have:=J0.out;unfold ssT ssA ssK at this;rw[if_pos hjl,if_pos hjl,if_pos hjl]at this;exact this)
     obtain⟨K,n',c',h4',h5'⟩:=J1.out.st;have H4':=aa h4';have H5':=aa h5'
     have HN':Hid (n'≤400):=aa (by
      have:=h5'.len;rw[aN,aj]at this;have:=H4.out;omega)
     have CF:=aa (d9 v 1024 g K n' c' a k (X.extract 0 j) (X.extract j (j+1)) w wr h4' h5' J1.out.low.size (by rw[aj];have:=HN'.out;omega) (by have:=HAK.out;have:=HI.out;have:=HN.out;omega));have b3:(0:Int)≤(j:Int):=by omega
     have b4:(j:Int)<(X.size:Int):=by omega
     have b5:(j:Int)≤((j+1:Nat):Int):=by omega
     have b6:((j+1:Nat):Int)≤(X.size:Int):=by omega
     have hj1:wrap64 ((j:Int)+1)=((j+1:Nat):Int):=by unfold wrap64;omega
     have HJL:=aa hjl;clear J0 h4' h5' hjl hj
     by_cases hlast:j+1=X.size
     ·have el:(((j+1:Nat):Int)==(X.size:Int))=true:=aK.2 (by omega);have el2:((j:Int)+1==(X.size:Int))=true:=aK.2 (by omega);rw[SL.out H4.out j hlast a k]at CF;have HLA:=aa hlast;clear hlast
      go_wp2_with fail
      refine CF.out.mono ?_;rintro e w4 ⟨A2,m2,cm2,L2,K2,n2,c2,rfl,F⟩;have S4:=aa (J1.out.fed H5'.out F rfl);have M2:=F.len;obtain⟨kp,e2⟩:=tg F.map;have RD:=F.row.read;rw[e2]at RD;dsimp only[bM,eC]at M2;subst M2;obtain⟨b',o',p',h',rfl,e1,-,lp,ip⟩:=RD.at (i:=0) (by simp);simp only[aB,aX,bG]at e1;obtain⟨rfl,rfl⟩:=e1;obtain⟨bq,oq,q',hq',eA,e3,-,lq,iq⟩:=(HL.out.below S4.out.low).at HILT.out;simp only[aX,Addr.mk.injEq,Hj]at eA;obtain⟨rfl,rfl⟩:=eA;have e3':=HE1.out.symm.trans e3;simp only[aX,bG]at e3';obtain⟨rfl,rfl⟩:=e3';have IP:=aa ip;have IQ:=aa iq
      have lp0:=fun(d:Nat) (os:Array Obj)=>lp _ (below_regrown w4 d os);have lq0:=fun(d:Nat) (os:Array Obj)=>lq _ (below_regrown w4 d os);have q0:=jw (W:=w4) (fun x hx=>ws p p kp h x (IP.out.next hx) (IQ.out.next hx) HP.out.len HP.out.len);rw[au rfl]at q0;simp only[jU,jV]at lp0;have HBQ:=aa (fun d os=>below_regrown w4 d os);clear F CF e2 RD lp ip lq iq e3 J1 H4' H5';dsimp only
      go_wp2_with fail
      refine wp_region_quiet_below (by as_aux_lemma=>kernel_rfl) (by as_aux_lemma=>kernel_rfl) ?_
      repeat (go_big_quiet_step (first| with_reducible exact q0 _ _))
      refine kE ?_;intro _ hw';obtain⟨⟨dq,osq⟩,hw''⟩:=hw';subst hw'';have KF:=aa (HBQ.out dq osq);clear q0 lp0 lq0 HBQ el el2;generalize Sort.grow (redrawn _ dq) osq=wq at*;have S5:=aa (S4.out.below KF.out);have S6:Hid (SSnd w v g (ssT X (j+1)) (ssA X a (j+1)) (ssK X k (j+1)) wq):=aa (by
       have h0:¬(j+1<X.size):=by have:=HLA.out;omega
       unfold ssT ssA ssK;rw[ae h0,ae h0,ae h0];exact S5.out)
      clear S4 S5 KF IP IQ
      go_wp2
      go_roundw
      case rel=>exact⟨j+1,by have:=HLA.out;omega,by first| rw[hj1] | rfl,S6.out⟩
      case measure=>(first| rw[hj1] | rw[←Int.natCast_succ] | skip);(first| simp only[intOf,dN] | simp[intOf]);have:=HJL.out;omega
     ·have el:(((j+1:Nat):Int)==(X.size:Int))=false:=ar.2 (by omega);have el2:((j:Int)+1==(X.size:Int))=false:=ar.2 (by omega);have HLA:Hid (j+1<X.size):=aa (by have:=HJL.out;omega);rw[SM.out H4.out j HLA.out a k]at CF;clear hlast
      go_wp2_with fail
      refine CF.out.mono ?_;rintro e w4 ⟨A2,m2,cm2,L2,K2,n2,c2,rfl,F⟩;have S4:=aa (J1.out.fed H5'.out F rfl);have M2:=F.len;dsimp only[eC]at M2;subst M2;have HBQ:=aa (fun d os=>below_regrown w4 d os);clear F CF J1 H4' H5';dsimp only
      go_wp2_with fail
      refine wp_region_quiet_below (by as_aux_lemma=>kernel_rfl) (by as_aux_lemma=>kernel_rfl) ?_
      repeat (go_big_quiet_step (fail))
      refine kE ?_;intro _ hw';obtain⟨⟨dq,osq⟩,hw''⟩:=hw';subst hw'';have KF:=aa (HBQ.out dq osq);clear HBQ el el2;generalize Sort.grow (redrawn _ dq) osq=wq at*;have S5:=aa (S4.out.below KF.out);have S6:Hid (SSnd w v g (ssT X (j+1)) (ssA X a (j+1)) (ssK X k (j+1)) wq):=aa (by
       unfold ssT ssA ssK;rw[if_pos HLA.out,if_pos HLA.out,if_pos HLA.out];exact S5.out)
      clear S4 S5 KF
      go_wp2
      go_roundw
      case rel=>exact⟨j+1,by have:=HLA.out;omega,by first| rw[hj1] | rfl,S6.out⟩
      case measure=>(first| rw[hj1] | rw[←Int.natCast_succ] | skip);(first| simp only[intOf,dN] | simp[intOf]);have:=HJL.out;omega
    ·obtain rfl:j=X.size:=by omega
     have J1:Hid (SSnd w v g ⟨#[]⟩ (a+X.size) (k+1) wr):=aa (by
      have:=J0.out;unfold ssT ssA ssK at this;rw[ae hjl,ae hjl,ae hjl]at this;exact this)
     obtain⟨K,n',c',h4',h5'⟩:=J1.out.st;obtain rfl:n'=0:=h5'.len.symm;have H4':=aa h4';have H5':=aa h5'
     have b4:(X.size:Int)≤(X.size:Int):=Int.le_refl _;have ND:=aa (iR v 1024 g K 0 c' (a+X.size) (k+1) 0 ⟨#[]⟩ w wr h4' h5' (by decide));have HN1:Hid (fC v ⟨#[]⟩ 0=1):=aa (by
      rw[kg,if_pos];unfold hdR;rw[ae (by rw[HV.out];decide),if_pos (show(⟨#[]⟩:ByteArray).size=0 from rfl)]
      decide)
     rw[HN1.out]at ND;clear J0 h4' h5' hjl hj
     go_wp2_with fail
     refine(gQ v 1024 g K 0 c' (a+X.size) (k+1) 0 _ H4'.out).mono ?_;rintro e x2 ⟨rfl,rfl⟩
     go_wp2_with fail
     refine ND.out.mono ?_;rintro e x2 ⟨rfl,hb⟩;have S5:=aa (J1.out.below hb);clear hb ND H4' H5' J1
     go_wp2
     go_roundw
     case rel=>exact⟨i+1,a+X.size,k+1,HILT.out,by go_num,by have:=HAK.out;have:=H4.out;omega,by have:=HAK.out;omega,S5.out⟩
     case measure=>simp[intOf];have:=HILT.out;omega
  ·obtain rfl:i=n:=by omega
   obtain⟨K,n',c',h4',h5'⟩:=S0.out.st;have H4':=aa h4';have b4:(i:Int)≤(i:Int):=Int.le_refl _;clear h4' h5' hlt
   go_wp2_with fail
   refine(lS v 1024 g K n' c' a k 0 _ H4'.out).mono ?_;rintro e x2 ⟨rfl,rfl⟩
   go_wp2
   go_ret
   exact⟨rfl,S0.out.low⟩
end Go.Proofs.YtpcleamaieaefaaGreatDoor
namespace Go.Proofs.YtpcleamaieaefaaGreatDoor
open Go.ChangeShapes Go.WideShapes Go.ChangeAt Go.RowKit Go.Deep
set_option maxRecDepth 100000
instance:Inhabited (Pk×Hs):=⟨(pk0,hs0)⟩
section
variable {H:Type} {enc:TypeId×Value→H} {w:World} {base:Nat} {spare:Nat→Bool} {held:Bool}
theorem Lz {r:Reach} {b0:Nat} {v:Value} {d:DataW H} {ps:List MemPlace} (hval:Value.okWide Tryz.prog w r b0 48 v) (hd:DataW.Trod enc Tryz.prog w base spare held 48 v d ps) (hs:fu Tryz.prog 48 d) (hlt:∀x∈ps,x.block<w.heap.size):
  ∃(A:Option Addr) (L:List (Pk×Hs)) (c:Nat),v= .slice A L.length c∧RdK w A L.length L∧∀x∈L,PkOk x.1:=by
 obtain⟨a,len,cap,rfl⟩:=okWide_slice Tryz.underlying48 hval;obtain⟨fuel,hf⟩:=hd;obtain⟨A,L,c,h1,h2,h3,-⟩:=rX (X:=Pk×Hs) (k:=25) (fun x=>(pkC x.1 x.2).toList) kM (by omega) Tryz.underlying48 (by kernel_rfl) (fun x=>PkIn w w.heap.size x.1 x.2∧PkOk x.1)
  (fun n cs D Pl h hs hl=>by obtain⟨p,k,e,hi,ho⟩:=Oj h hs hl;exact⟨(p,k),e,hi,ho⟩) hf hs hlt
 simp[Value.cells]at h1;obtain⟨rfl,rfl,rfl⟩:=h1;exact⟨a,L,cap,rfl,⟨h2,fun x hx=>(h3 x hx).1⟩,fun x hx=>(h3 x hx).2⟩
end
end Go.Proofs.YtpcleamaieaefaaGreatDoor
