/- A part of what the laws stand on: MRft. -/
import Derived.Test.YtpcleamaieaefaaGreatDoorMeG1MRfB
set_option maxRecDepth 10000
set_option maxHeartbeats 8000000
namespace Go.Proofs.YtpcleamaieaefaaGreatDoor
open Go.RowKit
def Hn (v:Int) (p:Pk):Bool:=decide (pe v p.kind=true∧p=qS p∧¬(v=4∧(p.code≠0∨0<p.props.length))∧1≤p.id∧p.id≤65535∧may p.kind p.code=true)
theorem Ir {v k:Int} {l:List Pr} (h:v=4→l.length=0):GI v k l=(aM k l).2:=by
 unfold GI
 by_cases h4:v=4
 ·have h0:=h h4;have hl:l=[]:=aF h0;subst hl;rw[if_pos h4,ae (by simp),vL]
 ·rw[ae h4]
theorem OS (v:Int) (p:Pk):eS v p=if Hn v p=true then GI v p.kind p.props else 2:=by
 by_cases h:Hn v p=true
 ·obtain⟨g1,g2,g3,g4,g5,g6⟩:=aR (show decide _=true from h);have h0:v=4→p.props.length=0:=fun h4=>by
   have:¬(0<p.props.length):=fun x=>g3 ⟨h4,.inr x⟩;omega
  rw[if_pos h,Ir h0];unfold eS;rw[ae,ae,ae]
  ·exact fun x=>x g2
  ·rintro ⟨x,y| y⟩
   ·exact g3 ⟨x,.inl y⟩
   ·exact y (h0 x)
  ·rintro (x| x| x| x)
   ·rw[g1]at x;cases x
   ·omega
   ·omega
   ·rw[g6]at x;cases x
 ·rw[ae h];have hn:¬(pe v p.kind=true∧p=qS p∧¬(v=4∧(p.code≠0∨0<p.props.length))∧1≤p.id∧p.id≤65535∧may p.kind p.code=true):=fun x=>h (au x);unfold eS
  by_cases c1:pe v p.kind=false∨p.id≤0∨65536≤p.id∨may p.kind p.code=false
  ·rw[if_pos c1]
  rw[ae c1]
  by_cases c2:v=4∧(p.code≠0∨p.props.length≠0)
  ·rw[if_pos c2]
  rw[ae c2]
  by_cases c3:p=qS p
  ·exfalso;apply hn;refine⟨?_,c3,?_,?_,?_,?_⟩
   ·cases e:pe v p.kind
    ·exact absurd (.inl e) c1
    ·rfl
   ·rintro ⟨x,y| y⟩
    ·exact c2 ⟨x,.inl y⟩
    ·exact c2 ⟨x,.inr (by omega)⟩
   ·have:¬p.id≤0:=fun x=>c1 (.inr (.inl x));omega
   ·have:¬65536≤p.id:=fun x=>c1 (.inr (.inr (.inl x)));omega
   ·cases e:may p.kind p.code
    ·exact absurd (.inr (.inr (.inr e))) c1
    ·rfl
  ·rw[if_pos c3]
def Ia (v k c:Int) (l:List Pr):ByteArray:=if v=5 then⟨(oG k c l).toArray⟩else⟨#[]⟩
theorem MZ (v k:Int) (l:List Pr):(Hq v k l).size≤131075004:=by
 unfold Hq
 split
 ·exact ag _
 ·rw[GW]
  by_cases h:(aM k l).2=0
  ·exact(G6 k l h).2
  ·rw[Ix k l h];exact ag _
theorem Mf (v k c:Int) (l:List Pr):(Ia v k c l).size≤131075005:=by
 unfold Ia
 split
 ·rw[GW];unfold oG
  split
  ·exact ag _
  ·rw[List.length_append,fM]
   split
   ·exact aC (ac 1) (by decide)
   ·by_cases h:(aM k l).2=0
    ·have:=(G6 k l h).2;omega
    ·rw[Ix k l h];exact aC (ac 1) (by decide)
 ·exact ag _
end Go.Proofs.YtpcleamaieaefaaGreatDoor
namespace Go.Proofs.YtpcleamaieaefaaGreatDoor
open Go.RowKit
attribute [local go_sem ↓] bD bF bH bI bu
attribute [local go_sem] bc aD bh bg bK bJ bd aY be ax cI dC dB dt dj di dA dr dp dn bW co bO bZ bX cz cy cw cu ct cC cn bS bP bR
theorem Mh (p:Pk) (h:Hs) (w:World):(qP #[(0,.int .i64 p.kind),(4,.int .i64 p.id),(17,.int .i64 p.code),(20,.slice h.props.a p.props.length h.props.c)]).run Tryz.prog w= .ok (pkV (qS p) (vU h)) w:=by kernel_rfl
theorem JS (v:Int) (p:Pk) (h:Hs) (w:World) (ip:PkIn w w.heap.size p h) (ok:PkOk p):
  Calls Tryz.prog 226 #[.int .i64 v,pkV p h] w fun e w'=>e= .returned (.bool (Hn v p))∧Below w.heap.size w w':=by
 have OK:=aa ok;have S0:=aa ((St.start w).push ip);clear ip ok
 go_enter Tryz.func226,Tryz.ntmps226
 have k0:=S0.out.cell 0 rfl 0;rw[cI]at k0
 go_wp2_with fail
 refine(pS v _).mono ?_;rintro e w1 ⟨rfl,rfl⟩;cases hk:ba v
 ·have HX:Hid (Hn v p=false):=aa (ah (fun x=>by have h1:=aR (show decide _=true from x.1);have h2:=Gy (show decide (v=4∨v=5)=false from hk);exact h2 h1.1));clear hk
  go_wp2
  go_ret
  exact⟨by rw[HX.out];rfl,S0.out.kept⟩
 by_cases h4:p.kind<4
 ·have HX:Hid (Hn v p=false):=aa (ah (fun x=>by have h1:=aR (show decide _=true from x.1);omega));clear hk
  go_wp2
  go_ret
  exact⟨by rw[HX.out];rfl,S0.out.kept⟩
 have d4:decide (p.kind<(4:Int))=false:=ah h4
 by_cases h7:7<p.kind
 ·have HX:Hid (Hn v p=false):=aa (ah (fun x=>by have h1:=aR (show decide _=true from x.1);omega));clear hk h4
  go_wp2
  go_ret
  exact⟨by rw[HX.out];rfl,S0.out.kept⟩
 have d7:decide ((7:Int)<p.kind)=false:=ah h7;have HKN:Hid (pe v p.kind=true):=aa (au ⟨aR (show decide (v=4∨v=5)=true from hk),by omega,by omega⟩);clear hk h4 h7;have k4:=S0.out.cell 0 rfl 4;have k17:=S0.out.cell 0 rfl 21;have k20:=S0.out.cell 0 rfl 24;rw[dj]at k4;rw[cn]at k17;rw[bR]at k20;have hbd:=fun W=>Mh p h W;generalize hW:w.alloc (.cells (pkC p h) PkT)=W at*;have S2:Hid (St w [(w.heap.size,p,h),(W.heap.size,qS p,vU h)] (W.alloc (.cells (pkC (qS p) (vU h)) PkT))):=aa (S0.out.push (Fh (S0.out.into 0 rfl)));have C2:Hid (Calls Tryz.prog 224 #[pkV p h,pkV (qS p) (vU h)] (W.alloc (.cells (pkC (qS p) (vU h)) PkT)) fun e w'=>e= .returned (.bool (decide (p=qS p)))∧Below (W.alloc (.cells (pkC (qS p) (vU h)) PkT)).heap.size (W.alloc (.cells (pkC (qS p) (vU h)) PkT)) w'):=
  aa (GP p (qS p) h (vU h) _ (S2.out.into 0 rfl) (S2.out.into 1 rfl) OK.out.len (Dy OK.out.len))
 clear hW;have hl0:=S2.out.ld 0 rfl;have hl1:=S2.out.ld 1 rfl;have j17:=S2.out.cell 0 rfl 21;have j20:=S2.out.cell 0 rfl 24;rw[cn]at j17;rw[bR]at j20
 by_cases hv:v=4
 ·have e4:(v==4)=true:=aK.2 hv
  by_cases hc:p.code=0
  ·have ec:(p.code !=0)=false:=by simpa using hc
   by_cases hl:0<p.props.length
   ·have dl:decide ((0:Int)<(p.props.length:Int))=true:=au (by omega);have dl1:decide (0<p.props.length)=true:=au hl;have HO:Hid (v=4∧(p.code≠0∨0<p.props.length)):=aa ⟨hv,.inr hl⟩;clear hv hc hl
    go_wp2_with fail
    refine C2.out.mono ?_;rintro e w3 ⟨rfl,hb⟩;have S3:=aa (S2.out.below hb);clear hb hl0 hl1 k0 k4 k17 k20 j17 j20 hbd
    have m0:=S3.out.cell 0 rfl 0;have m4:=S3.out.cell 0 rfl 4;have m17:=S3.out.cell 0 rfl 21;rw[cI]at m0;rw[dj]at m4;rw[cn]at m17
    by_cases hsm:p=qS p
    rotate_left
    ·have HX:Hid (Hn v p=false):=aa (ah (fun x=>hsm x.2.1));rw[ah hsm];clear hsm
     go_wp2
     go_ret
     exact⟨by rw[HX.out];rfl,S3.out.kept⟩
    rw[au hsm];have HSM:=aa hsm;clear hsm;have HX:Hid (Hn v p=false):=aa (ah (fun x=>x.2.2.1 HO.out))
    go_wp2
    go_ret
    exact⟨by rw[HX.out];rfl,S3.out.kept⟩
   ·have dl:decide ((0:Int)<(p.props.length:Int))=false:=ah (by omega);have dl1:decide (0<p.props.length)=false:=ah hl;have HO:Hid (¬(v=4∧(p.code≠0∨0<p.props.length))):=aa (fun x=>x.2.elim (fun y=>y hc) hl);clear hv hc hl
    go_wp2_with fail
    refine C2.out.mono ?_;rintro e w3 ⟨rfl,hb⟩;have S3:=aa (S2.out.below hb);clear hb hl0 hl1 k0 k4 k17 k20 j17 j20 hbd
    have m0:=S3.out.cell 0 rfl 0;have m4:=S3.out.cell 0 rfl 4;have m17:=S3.out.cell 0 rfl 21;rw[cI]at m0;rw[dj]at m4;rw[cn]at m17
    by_cases hsm:p=qS p
    rotate_left
    ·have HX:Hid (Hn v p=false):=aa (ah (fun x=>hsm x.2.1));rw[ah hsm];clear hsm
     go_wp2
     go_ret
     exact⟨by rw[HX.out];rfl,S3.out.kept⟩
    rw[au hsm];have HSM:=aa hsm;clear hsm
    by_cases i1:1≤p.id
    rotate_left
    ·have HX:Hid (Hn v p=false):=aa (ah (fun x=>i1 x.2.2.2.1));have di1:decide ((1:Int)≤p.id)=false:=ah i1;clear i1
     go_wp2
     go_ret
     exact⟨by rw[HX.out];rfl,S3.out.kept⟩
    by_cases i2:p.id≤65535
    rotate_left
    ·have HX:Hid (Hn v p=false):=aa (ah (fun x=>i2 x.2.2.2.2.1));have di1:decide ((1:Int)≤p.id)=true:=au i1;have di2:decide (p.id≤(65535:Int))=false:=ah i2;clear i1 i2
     go_wp2
     go_ret
     exact⟨by rw[HX.out];rfl,S3.out.kept⟩
    have di1:decide ((1:Int)≤p.id)=true:=au i1;have di2:decide (p.id≤(65535:Int))=true:=au i2;have HI:=aa (And.intro i1 i2);clear i1 i2
    go_wp2_with fail
    refine(Ht p.kind p.code _).mono ?_;rintro e w4 ⟨rfl,hb⟩;have S4:=aa (S3.out.below hb);clear hb m0 m4 m17
    have HX:Hid (Hn v p=may p.kind p.code):=aa (by
     cases hm:may p.kind p.code
     ·exact ah (fun x=>by have:=x.2.2.2.2.2;rw[hm]at this;cases this)
     ·exact au ⟨HKN.out,HSM.out,HO.out,HI.out.1,HI.out.2,hm⟩)
    go_wp2
    go_ret
    exact⟨by rw[HX.out];rfl,S4.out.kept⟩
  ·have ec:(p.code !=0)=true:=aA.2 hc;have HO:Hid (v=4∧(p.code≠0∨0<p.props.length)):=aa ⟨hv,.inl hc⟩;clear hv hc
   go_wp2_with fail
   refine C2.out.mono ?_;rintro e w3 ⟨rfl,hb⟩;have S3:=aa (S2.out.below hb);clear hb hl0 hl1 k0 k4 k17 k20 j17 j20 hbd
   have m0:=S3.out.cell 0 rfl 0;have m4:=S3.out.cell 0 rfl 4;have m17:=S3.out.cell 0 rfl 21;rw[cI]at m0;rw[dj]at m4;rw[cn]at m17
   by_cases hsm:p=qS p
   rotate_left
   ·have HX:Hid (Hn v p=false):=aa (ah (fun x=>hsm x.2.1));rw[ah hsm];clear hsm
    go_wp2
    go_ret
    exact⟨by rw[HX.out];rfl,S3.out.kept⟩
   rw[au hsm];have HSM:=aa hsm;clear hsm;have HX:Hid (Hn v p=false):=aa (ah (fun x=>x.2.2.1 HO.out))
   go_wp2
   go_ret
   exact⟨by rw[HX.out];rfl,S3.out.kept⟩
 ·have e4:(v==4)=false:=ar.2 hv;have HO:Hid (¬(v=4∧(p.code≠0∨0<p.props.length))):=aa (fun x=>hv x.1);clear hv
  go_wp2_with fail
  refine C2.out.mono ?_;rintro e w3 ⟨rfl,hb⟩;have S3:=aa (S2.out.below hb);clear hb hl0 hl1 k0 k4 k17 k20 j17 j20 hbd
  have m0:=S3.out.cell 0 rfl 0;have m4:=S3.out.cell 0 rfl 4;have m17:=S3.out.cell 0 rfl 21;rw[cI]at m0;rw[dj]at m4;rw[cn]at m17
  by_cases hsm:p=qS p
  rotate_left
  ·have HX:Hid (Hn v p=false):=aa (ah (fun x=>hsm x.2.1));rw[ah hsm];clear hsm
   go_wp2
   go_ret
   exact⟨by rw[HX.out];rfl,S3.out.kept⟩
  rw[au hsm];have HSM:=aa hsm;clear hsm
  by_cases i1:1≤p.id
  rotate_left
  ·have HX:Hid (Hn v p=false):=aa (ah (fun x=>i1 x.2.2.2.1));have di1:decide ((1:Int)≤p.id)=false:=ah i1;clear i1
   go_wp2
   go_ret
   exact⟨by rw[HX.out];rfl,S3.out.kept⟩
  by_cases i2:p.id≤65535
  rotate_left
  ·have HX:Hid (Hn v p=false):=aa (ah (fun x=>i2 x.2.2.2.2.1));have di1:decide ((1:Int)≤p.id)=true:=au i1;have di2:decide (p.id≤(65535:Int))=false:=ah i2;clear i1 i2
   go_wp2
   go_ret
   exact⟨by rw[HX.out];rfl,S3.out.kept⟩
  have di1:decide ((1:Int)≤p.id)=true:=au i1;have di2:decide (p.id≤(65535:Int))=true:=au i2;have HI:=aa (And.intro i1 i2);clear i1 i2
  go_wp2_with fail
  refine(Ht p.kind p.code _).mono ?_;rintro e w4 ⟨rfl,hb⟩;have S4:=aa (S3.out.below hb);clear hb m0 m4 m17
  have HX:Hid (Hn v p=may p.kind p.code):=aa (by
   cases hm:may p.kind p.code
   ·exact ah (fun x=>by have:=x.2.2.2.2.2;rw[hm]at this;cases this)
   ·exact au ⟨HKN.out,HSM.out,HO.out,HI.out.1,HI.out.2,hm⟩)
  go_wp2
  go_ret
  exact⟨by rw[HX.out];rfl,S4.out.kept⟩
theorem IZ (v:Int) (p:Pk) (h:Hs) (w:World) (ip:PkIn w w.heap.size p h) (ok:PkOk p):
  Calls Tryz.prog 167 #[.int .i64 v,pkV p h] w fun e w'=>e= .returned (.int .i64 (eS v p))∧Below w.heap.size w w':=by
 have OK:=aa ok;have S0:=aa ((St.start w).push ip);have HE:=aa (OS v p);clear ip ok
 go_enter Tryz.func167,Tryz.ntmps167
 have hl:=S0.out.ld 0 rfl
 go_wp2_with fail
 refine(JS v p h _ (S0.out.into 0 rfl) OK.out).mono ?_;rintro e w1 ⟨rfl,hb⟩;have S1:=aa (S0.out.below hb);clear hb hl
 cases hr:Hn v p
 ·have HX:Hid (eS v p=2):=aa (by rw[HE.out,ae (fun x=>by rw[hr]at x;cases x)]);clear hr
  go_wp2
  go_ret
  exact⟨by rw[HX.out];rfl,S1.out.kept⟩
 have HX:Hid (eS v p=GI v p.kind p.props):=aa (by rw[HE.out,if_pos hr]);clear hr;have k0:=S1.out.cell 0 rfl 0;have k20:=S1.out.cell 0 rfl 24;rw[cI]at k0;rw[bR]at k20
 go_wp2_with fail
 refine(Gx v p.kind p.props _ rfl OK.out.props h.props.a h.props.c _ (S1.out.into 0 rfl).props OK.out.len.2.2.2 (S1.out.into 0 rfl).caps.2.2.2).mono ?_;rintro e w2 ⟨rfl,hb⟩;have S2:=aa (S1.out.below hb);clear hb k0 k20
 go_wp2
 go_ret
 exact⟨by rw[HX.out];rfl,S2.out.kept⟩
theorem JD (v k c:Int) (l:List Pr) (n:Nat) (hn:l.length=n) (hc:0≤c∧c<256) (hg:∀p∈l,ea p) (A:Option Addr) (q:Nat) (w:World) (h:Rd w w.heap.size 4 A n (prs l)) (hl:n≤4611686018427387904) (hq:n≤q):
  Calls Tryz.prog 237 #[.int .i64 v,.int .i64 k,.int .i64 c,.slice A n q] w fun e w'=>e= .returned (.string (Ia v k c l))∧Below w.heap.size w w':=by
 have H:=aa h;have HG:=aa hg;have HN:=aa hn;have HL:=aa hl;have HQ:=aa hq
 clear h hg hn hl hq
 by_cases h5:v=5
 rotate_left
 ·have e5:(v==5)=false:=ar.2 h5;have HX:Hid (Ia v k c l=⟨#[]⟩):=aa (ae h5);clear h5
  go_enter Tryz.func237,Tryz.ntmps237
  go_wp2
  go_ret
  exact⟨by rw[HX.out];rfl,aq _ _⟩
 have e5:(v==5)=true:=aK.2 h5;have HX:Hid (Ia v k c l=⟨(oG k c l).toArray⟩):=aa (if_pos h5);have HT:Hid (Hq v k l=⟨(aM k l).1.toArray⟩):=aa (ae (by omega));have HTL:Hid (oG k c l=if c=0∧l.length=0 then []else da c.toNat 1++(if l.length=0 then []else(aM k l).1)):=aa rfl;have hcb:c=((UInt8.ofNat c.toNat).toNat:Int):=by rw[UInt8.toNat_ofNat'];omega
 have HP:Hid (da c.toNat 1=[UInt8.ofNat c.toNat]):=aa (by
  show [UInt8.ofNat (c.toNat/ 2^ 0)]=_;rw[Nat.pow_zero,Nat.div_one])
 have hcv:=Lg (P:=Tryz.prog) 75 9 5 Tryz.underlying75 Tryz.underlying5 Tryz.underlying9;have hw:IntKind.u8.wrap c=c:=by rw[GM];omega
 clear h5;obtain⟨Y,hY⟩:∃Y,Ia v k c l=Y:=⟨_,rfl⟩;rw[hY]at HX⊢;clear hY
 by_cases h0:c=0∧n=0
 ·have HY:Hid (Y=⟨#[]⟩):=aa (by rw[HX.out,HTL.out,if_pos ⟨h0.1,by rw[HN.out];exact h0.2⟩]);have ec:(c !=0)=false:=by simpa using h0.1
  have dl:decide ((0:Int)<(n:Int))=false:=ah (by omega);have dl1:decide (0<n)=false:=ah (by omega);clear h0 hcb hc hw
  go_enter Tryz.func237,Tryz.ntmps237
  go_wp2
  go_ret
  exact⟨by rw[HY.out];rfl,aq _ _⟩
 obtain⟨b,hb⟩:∃b,UInt8.ofNat c.toNat=b:=⟨_,rfl⟩;rw[hb]at hcb HP;have HC0:=aa h0
 by_cases hn0:n=0
 ·have HY:Hid (Y=⟨#[b]⟩):=aa (by rw[HX.out,HTL.out,ae (by rw[HN.out];exact h0),if_pos (by rw[HN.out];exact hn0),HP.out];rfl);have ec:(c !=0)=true:=aA.2 (fun x=>h0 ⟨x,hn0⟩);have dl:decide ((0:Int)<(n:Int))=false:=ah (by omega);have dl1:decide (0<n)=false:=ah (by omega);rw[hcb]at ec hw⊢;clear h0 hn0 hcb hc hb
  go_enter Tryz.func237,Tryz.ntmps237
  go_wp2
  go_ret
  exact⟨by rw[HY.out];rfl,(aq _ _).alloc (ac _) _⟩
 have HY:Hid (Y=(⟨#[b]⟩:ByteArray)++Hq v k l):=aa (by
  rw[HX.out,HTL.out,ae (by rw[HN.out];exact h0),ae (by rw[HN.out];exact hn0),HP.out,HT.out];apply eX;rw[jo,fe,jo,jo])
 have HS:=aa (MZ v k l);have dl:decide ((0:Int)<(n:Int))=true:=au (by omega);have dl1:decide (0<n)=true:=au (by omega)
 by_cases hc0:c=0
 ·have ec:(c !=0)=false:=by simpa using hc0
  rw[hcb]at ec hw⊢;clear h0 hn0 hcb hc hb hc0
  go_enter Tryz.func237,Tryz.ntmps237
  go_wp2_with fail
  refine(G5 v k l n HN.out HG.out A q _ ((H.out.alloc (ac _) _).wider (by simp)) HL.out HQ.out).mono ?_;rintro e w1 ⟨rfl,hb⟩;have HB:=aa (((aq w.heap.size w).alloc (ac _) (.cells #[.int .u8 (b.toNat:Int)] 5)).trans (hb.mono (by simp)));clear hb
  obtain⟨T,hT⟩:∃T,Hq v k l=T:=⟨_,rfl⟩;rw[hT]at HY HS⊢;have hs1:¬(9223372036854775807<1+T.size):=by have:=HS.out;omega
  clear hT
  go_wp2
  go_ret
  exact⟨by rw[HY.out];rfl,HB.out⟩
 ·have ec:(c !=0)=true:=aA.2 hc0;rw[hcb]at ec hw⊢;clear h0 hn0 hcb hc hb hc0
  go_enter Tryz.func237,Tryz.ntmps237
  go_wp2_with fail
  refine(G5 v k l n HN.out HG.out A q _ ((H.out.alloc (ac _) _).wider (by simp)) HL.out HQ.out).mono ?_;rintro e w1 ⟨rfl,hb⟩;have HB:=aa (((aq w.heap.size w).alloc (ac _) (.cells #[.int .u8 (b.toNat:Int)] 5)).trans (hb.mono (by simp)));clear hb
  obtain⟨T,hT⟩:∃T,Hq v k l=T:=⟨_,rfl⟩;rw[hT]at HY HS⊢;have hs1:¬(9223372036854775807<1+T.size):=by have:=HS.out;omega
  clear hT
  go_wp2
  go_ret
  exact⟨by rw[HY.out];rfl,HB.out⟩
end Go.Proofs.YtpcleamaieaefaaGreatDoor
namespace Go.Proofs.YtpcleamaieaefaaGreatDoor
open Go.RowKit
attribute [local go_sem ↓] bD bF bH bI bu
attribute [local go_sem] bc aD bh bg bK bJ bd aY be aO ax cI dC dB dt dj di dA dr dp dn bW co bO bZ bX cz cy cw cu ct cC cn bS bP bR
theorem NQ {v:Int} {p:Pk} (g:AckGood v p):Ia v p.kind p.code p.props=⟨(Fa p).toArray⟩:=by
 unfold Ia
 by_cases h5:v=5
 ·rw[if_pos h5];rfl
 ·obtain⟨e1,e2⟩:=g.old ((AI g.k).resolve_right h5);rw[ae h5,Fa,if_pos ⟨e1,by rw[e2];rfl⟩]
theorem Kd (v:Int) (p:Pk) (h:Hs) (w:World) (ip:PkIn w w.heap.size p h) (ok:PkOk p):
  Calls Tryz.prog 172 #[.int .i64 v,pkV p h] w fun e w'=>e= .returned (.tuple #[.string ⟨(Ga v p).1.toArray⟩,.int .i64 (Ga v p).2])∧Below w.heap.size w w':=by
 have OK:=aa ok;have S0:=aa ((St.start w).push ip);have HE:Hid (Ga v p=if eS v p=0 then(da p.id.toNat 2++Fa p,0)else([],eS v p)):=aa rfl;clear ip ok
 go_enter Tryz.func172,Tryz.ntmps172
 have hl:=S0.out.ld 0 rfl
 go_wp2_with fail
 refine(IZ v p h _ (S0.out.into 0 rfl) OK.out).mono ?_;rintro e w1 ⟨rfl,hb⟩;have S1:=aa (S0.out.below hb);clear hb hl
 by_cases he:eS v p=0
 rotate_left
 ·have e0:(eS v p !=0)=true:=aA.2 he;have HX:Hid (Ga v p=([],eS v p)):=aa (by rw[HE.out,ae he]);clear he
  go_wp2
  go_ret2
  exact⟨by rw[HX.out];rfl,S1.out.kept⟩
 have HX:Hid (Ga v p=(da p.id.toNat 2++Fa p,0)):=aa (by rw[HE.out,if_pos he]);have G:=aa (AJ he);rw[he];clear he;obtain⟨m,hm,hw1⟩:∃m:Nat,Hid (p.id.toNat=m)∧IntKind.u64.wrap p.id=(m:Int):=⟨_,aa rfl,by rw[iZ];have:=G.out.id1;have:=G.out.id2;omega⟩;have HM:Hid (m<65536):=aa (by have:=hm.out;have:=G.out.id2;omega);obtain⟨X,hX⟩:∃X:ByteArray,(⟨(da m 2).toArray⟩:ByteArray)=X:=⟨_,rfl⟩;have hXS:X.size=2:=by rw[←hX,GW,fM]
 obtain⟨Z,hZ⟩:∃Z:ByteArray,Ia v p.kind p.code p.props=Z:=⟨_,rfl⟩;have hZS:Z.size≤131075005:=by rw[←hZ];exact Mf _ _ _ _
 have HW:Hid (((⟨(Ga v p).1.toArray⟩:ByteArray),(Ga v p).2)=(X++Z,0)):=aa (by
  rw[HX.out,hm.out,←hX,←hZ,NQ G.out];simp only;rw[ap2])
 have q0:=jw (W:=w1) (fun x hx=>GV m 2 x (by have:=HM.out;omega) (by omega) (by omega));rw[show((2:Nat):Int)=2 from rfl]at q0;rw[hX]at q0;have q1:=jw (W:=w1) (fun x hx=>JD v p.kind p.code p.props _ rfl ⟨G.out.c1,G.out.c2⟩ OK.out.props h.props.a h.props.c x ((S1.out.below hx).into 0 rfl).props OK.out.len.2.2.2 (S1.out.into 0 rfl).caps.2.2.2);rw[hZ]at q1;have k0:=cell_regrown (show w1.cell? ⟨w.heap.size,0,none⟩=some (.int .i64 p.kind)from S1.out.cell 0 rfl 0);have k4:=cell_regrown (show w1.cell? ⟨w.heap.size,4,none⟩=some (.int .i64 p.id)from S1.out.cell 0 rfl 4);have k21:=cell_regrown (show w1.cell? ⟨w.heap.size,21,none⟩=some (.int .i64 p.code)from S1.out.cell 0 rfl 21);have k24:=cell_regrown (show w1.cell? ⟨w.heap.size,24,none⟩=some (.slice h.props.a p.props.length h.props.c)from S1.out.cell 0 rfl 24);have hs1:¬(9223372036854775807<X.size+Z.size):=by omega
 have HBQ:=aa (fun d os=>S1.out.kept.trans ((below_regrown w1 d os).mono S1.out.kept.size));clear hX hZ hXS hZS
 go_wp2_with fail
 refine wp_region_quiet_below (by kernel_rfl) (by kernel_rfl) ?_
 repeat (go_big_quiet_step (first| with_reducible exact q0 _ _| with_reducible exact q1 _ _))
 refine kE ?_;intro _ hw';obtain⟨⟨dq,osq⟩,hw''⟩:=hw';subst hw'';have KF:=aa (HBQ.out dq osq);clear q0 q1 k0 k4 k21 k24 HBQ;generalize Sort.grow (redrawn _ dq) osq=wq at*
 go_wp2
 go_ret2
 refine⟨?_,KF.out⟩;have hx1:=congrArg Prod.fst HW.out;have hx2:=congrArg Prod.snd HW.out;simp only at hx1 hx2;rw[hx1,hx2];rfl
section
variable {w x y:World} {g a:Nat} {p:Pk} {h:Hs} {t:ByteArray} {e:Int}
end
end Go.Proofs.YtpcleamaieaefaaGreatDoor
