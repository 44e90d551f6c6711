/- A part of what the laws stand on: MRef, PubD, PubK, MCnp, MCnu, CntH, ConA, MFil. -/
import Derived.Test.YtpcleamaieaefaaGreatDoorMeG1MKit
import Derived.Test.YtpcleamaieaefaaGreatDoorMeG0MCnu
import Derived.Test.YtpcleamaieaefaaGreatDoorMeG0OrdD
set_option maxRecDepth 10000
set_option maxHeartbeats 8000000
namespace Go.Proofs.YtpcleamaieaefaaGreatDoor
open Go.RowKit
theorem Oz (s:ByteArray) (p:Nat) (h:p<s.size):s[p]=s.get! p:=by
 simp[ByteArray.get!,getElem!_pos,h];rfl
def Kl (s:ByteArray) (p:Nat):Bool:=decide (p<s.size∧(s.get! p).toNat/ 64=2)
def Kk (s:ByteArray) (p:Nat):Int:=if p<s.size∧(s.get! p).toNat/ 64=2 then(((s.get! p).toNat% 64:Nat):Int)else 0
theorem G8 {s:ByteArray} {p:Nat} (h:¬(p<s.size∧(s.get! p).toNat/ 64=2)):Kl s p=false∧Kk s p=0:=⟨ah h,ae h⟩
theorem GY {s:ByteArray} {p:Nat} (h:p<s.size∧(s.get! p).toNat/ 64=2):Kl s p=true∧Kk s p=(((s.get! p).toNat% 64:Nat):Int):=⟨au h,if_pos h⟩
theorem IH (s:ByteArray) (p:Nat) (q:Int) (hq:q=p) (w:World) (_hp:p≤9000000000000000000):
  Calls Tryz.prog 342 #[.string s,.int .i64 q] w fun e w'=>
   e= .returned (.tuple #[.int .i64 (Kk s p),.bool (Kl s p)])∧w=w':=by
 subst hq;have h0:(0:Int)≤(p:Int):=Int.natCast_nonneg _
 by_cases h:p<s.size
 ·have hi:(p:Int)<(s.size:Int):=by omega
  have d1:decide ((s.size:Int)≤(p:Int))=false:=ah (by omega);have d1':decide (s.size≤p)=false:=ah (by omega);have hx:=Oz s p h;obtain⟨x,hxx⟩:∃x,s.get! p=x:=⟨_,rfl⟩;rw[hxx]at hx
  by_cases h1:x.toNat<128
  ·have d2:decide ((x.toNat:Int)<128)=true:=au (by omega);have HF:Hid (Kl s p=false∧Kk s p=0):=aa (G8 (by rw[hxx];omega));clear h1 hxx
   go_enter Tryz.func342,Tryz.ntmps342
   go_wp2
   go_ret2
   exact⟨by rw[HF.out.1,HF.out.2];rfl,rfl⟩
  ·have d2:decide ((x.toNat:Int)<128)=false:=ah (by omega)
   by_cases h2:191<x.toNat
   ·have d3:decide ((191:Int)<(x.toNat:Int))=true:=au (by omega);have HF:Hid (Kl s p=false∧Kk s p=0):=aa (G8 (by rw[hxx];omega));clear h1 h2 hxx
    go_enter Tryz.func342,Tryz.ntmps342
    go_wp2
    go_ret2
    exact⟨by rw[HF.out.1,HF.out.2];rfl,rfl⟩
   ·have d3:decide ((191:Int)<(x.toNat:Int))=false:=ah (by omega);have HF:Hid (Kl s p=true∧Kk s p=((x.toNat% 64:Nat):Int)):=aa (by have:=GY (s:=s) (p:=p) (by rw[hxx];exact⟨h,by omega⟩);rwa[hxx]at this);have hs:(x.toNat:Int) - 128=((x.toNat% 64:Nat):Int):=by omega
    have HS:=aa hs;clear hs
    have hb1:(128:Int)≤(x.toNat:Int):=by omega
    have hb2:(x.toNat:Int)≤191:=by omega
    clear h1 h2 hxx
    go_enter Tryz.func342,Tryz.ntmps342
    go_wp2
    go_ret2
    exact⟨by rw[HF.out.1,HF.out.2,←HS.out];rfl,rfl⟩
 ·have d1:decide ((s.size:Int)≤(p:Int))=true:=au (by omega);have d1':decide (s.size≤p)=true:=au (by omega);have HF:Hid (Kl s p=false∧Kk s p=0):=aa (G8 (by omega));clear h
  go_enter Tryz.func342,Tryz.ntmps342
  go_wp2
  go_ret2
  exact⟨by rw[HF.out.1,HF.out.2];rfl,rfl⟩
def GJ (s:ByteArray) (at_:Nat):Nat×Nat:=if Utf8.decode s at_=(65533,1)then(0,0)else Utf8.decode s at_
theorem Hi {n b0 b1 b2 b3:Nat} (h1:128≤b0) (h2:¬(b0/ 32=6∧1<n∧b1/ 64=2∧128≤b0% 32*64+b1% 64))
  (h3:¬(b0/ 16=14∧2<n∧b1/ 64=2∧b2/ 64=2∧2048≤b0% 16*4096+b1% 64*64+b2% 64∧(b0% 16*4096+b1% 64*64+b2% 64<55296∨57344≤b0% 16*4096+b1% 64*64+b2% 64)))
  (h4:¬(b0/ 8=30∧3<n∧b1/ 64=2∧b2/ 64=2∧b3/ 64=2∧65536≤b0% 8*262144+b1% 64*4096+b2% 64*64+b3% 64∧b0% 8*262144+b1% 64*4096+b2% 64*64+b3% 64≤1114111)):
  Lib.decodeN n b0 b1 b2 b3=(65533,1):=by
 rcases Lib.decodeN_shape n b0 b1 b2 b3 with ⟨e1,_⟩ | ⟨e1,e2,e3,e4,_⟩ | ⟨e1,e2,e3,e4,e5,e6,_⟩ | ⟨e1,e2,e3,e4,e5,e6,e7,_⟩ | e
 ·omega
 ·exact absurd ⟨e1,e2,e3,e4⟩ h2
 ·exact absurd ⟨e1,e2,e3,e4,e5,e6⟩ h3
 ·exact absurd ⟨e1,e2,e3,e4,e5,e6,e7⟩ h4
 ·exact e
theorem PY {n b0 b1 b2 b3:Nat} (h1:b0/ 32=6) (h2:1<n) (h3:b1/ 64=2) (h4:128≤b0% 32*64+b1% 64):Lib.decodeN n b0 b1 b2 b3=(b0% 32*64+b1% 64,2):=by
 unfold Lib.decodeN;rw[ae (by omega),if_pos ⟨h1,h2,h3⟩,if_pos h4]
theorem OH {n b0 b1 b2 b3:Nat} (h1:b0/ 16=14) (h2:2<n) (h3:b1/ 64=2) (h4:b2/ 64=2) (h5:2048≤b0% 16*4096+b1% 64*64+b2% 64)
  (h6:b0% 16*4096+b1% 64*64+b2% 64<55296∨57344≤b0% 16*4096+b1% 64*64+b2% 64):Lib.decodeN n b0 b1 b2 b3=(b0% 16*4096+b1% 64*64+b2% 64,3):=by
 unfold Lib.decodeN;rw[ae (by omega),ae (by omega),if_pos ⟨h1,⟨by omega,h3⟩,h2,h4⟩,if_pos ⟨h5,by omega⟩]
theorem PX {n b0 b1 b2 b3:Nat} (h1:b0/ 8=30) (h2:3<n) (h3:b1/ 64=2) (h4:b2/ 64=2) (h5:b3/ 64=2) (h6:65536≤b0% 8*262144+b1% 64*4096+b2% 64*64+b3% 64)
  (h7:b0% 8*262144+b1% 64*4096+b2% 64*64+b3% 64≤1114111):Lib.decodeN n b0 b1 b2 b3=(b0% 8*262144+b1% 64*4096+b2% 64*64+b3% 64,4):=by
 unfold Lib.decodeN;rw[ae (by omega),ae (by omega),ae (by omega),if_pos ⟨h1,⟨by omega,h3⟩,⟨by omega,h4⟩,h2,h5⟩,if_pos ⟨h6,by omega⟩]
theorem GQ {s:ByteArray} {p:Nat} (h:Lib.decodeN (s.size- p) (s.get! p).toNat (s.get! (p+1)).toNat (s.get! (p+2)).toNat (s.get! (p+3)).toNat=(65533,1)):GJ s p=(0,0):=by
 unfold GJ;rw[Lib.decode_at,if_pos h]
theorem Jc {s:ByteArray} {p m k:Nat} (h:Lib.decodeN (s.size- p) (s.get! p).toNat (s.get! (p+1)).toNat (s.get! (p+2)).toNat (s.get! (p+3)).toNat=(m,k)) (hm:m≠65533∨k≠1):GJ s p=(m,k):=by
 unfold GJ;rw[Lib.decode_at,ae (by rw[h];simp;omega),h]
theorem La (s:ByteArray) (p:Nat) (w:World) (hp:p<s.size) (hs:s.size≤4611686018427387904):
  Calls Tryz.prog 327 #[.string s,.int .i64 p] w fun e w'=>e= .returned (.tuple #[.int .i64 (GJ s p).1,.int .i64 (GJ s p).2])∧w=w':=by
 have h0:(0:Int)≤(p:Int):=Int.natCast_nonneg _;have hi:(p:Int)<(s.size:Int):=by omega
 have hx:=Oz s p hp;obtain⟨x,hxx⟩:∃x,s.get! p=x:=⟨_,rfl⟩;rw[hxx]at hx;have HXX:=aa hxx;have HS:=aa (And.intro hp hs)
 have h256:=UInt8.toNat_lt x;have h255:(x.toNat:Int)≤255:=by omega
 have hpm:(p:Int)<4611686018427387904:=by omega
 clear hxx hs
 by_cases g1:x.toNat<128
 ·have HF:Hid (GJ s p=(x.toNat,1)):=aa (Jc (by rw[HXX.out];unfold Lib.decodeN;rw[if_pos g1]) (.inl (by omega)));have e1:decide ((x.toNat:Int)<128)=true:=au (by omega);clear g1 h256
  go_enter Tryz.func327,Tryz.ntmps327
  go_wp2
  go_ret2
  exact⟨by rw[HF.out];rfl,rfl⟩
 ·have e1:decide ((x.toNat:Int)<128)=false:=ah (by omega);obtain g2| g2| g2| g2| g2:x.toNat<192∨(192≤x.toNat∧x.toNat<224)∨(224≤x.toNat∧x.toNat<240)∨(240≤x.toNat∧x.toNat<248)∨248≤x.toNat:=by omega
  ·have a1:decide ((192:Int)≤(x.toNat:Int))=false:=ah (by omega);have a2:decide ((x.toNat:Int)<224)=true:=au (by omega);have a3:decide ((224:Int)≤(x.toNat:Int))=false:=ah (by omega);have a4:decide ((x.toNat:Int)<240)=true:=au (by omega);have a5:decide ((240:Int)≤(x.toNat:Int))=false:=ah (by omega);have a6:decide ((x.toNat:Int)<248)=true:=au (by omega);have HF:Hid (GJ s p=(0,0)):=aa (GQ (Hi (by rw[HXX.out];omega) (by rw[HXX.out];omega) (by rw[HXX.out];omega) (by rw[HXX.out];omega)));clear g1 g2 h256
   go_enter Tryz.func327,Tryz.ntmps327
   go_wp2
   go_ret2
   exact⟨by rw[HF.out];rfl,rfl⟩
  ·have a1:decide ((192:Int)≤(x.toNat:Int))=true:=au (by omega);have a2:decide ((x.toNat:Int)<224)=true:=au (by omega);have a3:decide ((224:Int)≤(x.toNat:Int))=false:=ah (by omega);have a4:decide ((x.toNat:Int)<240)=true:=au (by omega);have a5:decide ((240:Int)≤(x.toNat:Int))=false:=ah (by omega);have a6:decide ((x.toNat:Int)<248)=true:=au (by omega);have hm:(x.toNat:Int) - 192=((x.toNat% 32:Nat):Int):=by omega
   have hmb:((x.toNat% 32:Nat):Int)≤31:=by omega
   have M0:Hid (x.toNat/ 32=6):=aa (by omega);obtain⟨m0,hm0⟩:∃m0,x.toNat% 32=m0:=⟨_,rfl⟩;rw[hm0]at hm hmb;have HM0:=aa hm0;clear hm0 g1 g2 h256
   go_enter Tryz.func327,Tryz.ntmps327
   go_wp2
   refine wp_loop_rounds 2 ?_;rw[GD]
   go_wp2_with fail
   refine(IH s (p+1) _ (by simp) _ (by have:=HS.out;omega)).mono ?_;rintro e w1 ⟨rfl,rfl⟩
   by_cases c1:p+1<s.size∧(s.get! (p+1)).toNat/ 64=2
   ·rw[(GY c1).1,(GY c1).2];have C1:=aa c1;clear c1
    obtain⟨l1,hl1⟩:∃l,(s.get! (p+1)).toNat% 64=l:=⟨_,rfl⟩;rw[hl1];have bl1:(l1:Int)≤63:=by omega
    have HL1:=aa hl1;clear hl1
    obtain⟨q1,hq1⟩:∃q:Nat,64*(m0:Int)+(l1:Int)=(q:Int):=⟨64*m0+l1,by omega⟩;have bq1:(q1:Int)≤2047:=by omega
    have HQ1:=aa hq1
    go_wp2
    by_cases z1:q1<128
    ·have tz1:decide ((q1:Int)<128)=true:=au (by omega);have HF:Hid (GJ s p=(0,0)):=aa (GQ (Hi (by rw[HXX.out];omega) (by rw[HXX.out];have k0:=M0.out;have k00:=HM0.out;have k000:=HS.out;have k1:=C1.out;have kk1:=HL1.out;have kkk1:=HQ1.out;omega) (by rw[HXX.out];have k0:=M0.out;have k00:=HM0.out;have k000:=HS.out;have k1:=C1.out;have kk1:=HL1.out;have kkk1:=HQ1.out;omega) (by rw[HXX.out];have k0:=M0.out;have k00:=HM0.out;have k000:=HS.out;have k1:=C1.out;have kk1:=HL1.out;have kkk1:=HQ1.out;omega)));clear z1;rw[GD]
     go_wp2
     go_ret2
     exact⟨by rw[HF.out];rfl,rfl⟩
    ·have tz1:decide ((q1:Int)<128)=false:=ah (by omega)
     by_cases z2:1114111<q1
     ·have tz2:decide ((1114111:Int)<(q1:Int))=true:=au (by omega);omega
     ·have tz2:decide ((1114111:Int)<(q1:Int))=false:=ah (by omega)
      by_cases z3:55296≤q1
      ·have tz3:decide ((55296:Int)≤(q1:Int))=true:=au (by omega)
       by_cases z4:q1≤57343
       ·have tz4:decide ((q1:Int)≤57343)=true:=au (by omega);omega
       ·have tz4:decide ((q1:Int)≤57343)=false:=ah (by omega);omega
      ·have tz3:decide ((55296:Int)≤(q1:Int))=false:=ah (by omega);have HF:Hid (GJ s p=(q1,2)):=aa (Jc (by have k0:=M0.out;have k00:=HM0.out;have k000:=HS.out;have k1:=C1.out;have kk1:=HL1.out;have kkk1:=HQ1.out;replace k00:=k00;rw[show q1=x.toNat% 32*64+(s.get! (p+1)).toNat% 64 by omega];rw[HXX.out];exact PY (by omega) (by omega) (by omega) (by omega)) (.inr (by omega)));clear z1 z2 z3;rw[GD]
       go_wp2
       go_ret2
       exact⟨by rw[HF.out];rfl,rfl⟩
   ·rw[(G8 c1).1,(G8 c1).2];have HF:Hid (GJ s p=(0,0)):=aa (GQ (Hi (by rw[HXX.out];omega) (by rw[HXX.out];have k0:=M0.out;have k00:=HM0.out;have k000:=HS.out;omega) (by rw[HXX.out];have k0:=M0.out;have k00:=HM0.out;have k000:=HS.out;omega) (by rw[HXX.out];have k0:=M0.out;have k00:=HM0.out;have k000:=HS.out;omega)));clear c1
    go_wp2
    go_ret2
    exact⟨by rw[HF.out];rfl,rfl⟩
  ·have a1:decide ((192:Int)≤(x.toNat:Int))=true:=au (by omega);have a2:decide ((x.toNat:Int)<224)=false:=ah (by omega);have a3:decide ((224:Int)≤(x.toNat:Int))=true:=au (by omega);have a4:decide ((x.toNat:Int)<240)=true:=au (by omega);have a5:decide ((240:Int)≤(x.toNat:Int))=false:=ah (by omega);have a6:decide ((x.toNat:Int)<248)=true:=au (by omega);have hm:(x.toNat:Int) - 224=((x.toNat% 16:Nat):Int):=by omega
   have hmb:((x.toNat% 16:Nat):Int)≤15:=by omega
   have M0:Hid (x.toNat/ 16=14):=aa (by omega);obtain⟨m0,hm0⟩:∃m0,x.toNat% 16=m0:=⟨_,rfl⟩;rw[hm0]at hm hmb;have HM0:=aa hm0;clear hm0 g1 g2 h256
   go_enter Tryz.func327,Tryz.ntmps327
   go_wp2
   refine wp_loop_rounds 3 ?_;rw[GD]
   go_wp2_with fail
   refine(IH s (p+1) _ (by simp) _ (by have:=HS.out;omega)).mono ?_;rintro e w1 ⟨rfl,rfl⟩
   by_cases c1:p+1<s.size∧(s.get! (p+1)).toNat/ 64=2
   ·rw[(GY c1).1,(GY c1).2];have C1:=aa c1;clear c1
    obtain⟨l1,hl1⟩:∃l,(s.get! (p+1)).toNat% 64=l:=⟨_,rfl⟩;rw[hl1];have bl1:(l1:Int)≤63:=by omega
    have HL1:=aa hl1;clear hl1
    obtain⟨q1,hq1⟩:∃q:Nat,64*(m0:Int)+(l1:Int)=(q:Int):=⟨64*m0+l1,by omega⟩;have bq1:(q1:Int)≤1023:=by omega
    have HQ1:=aa hq1
    go_wp2
    rw[GD]
    go_wp2_with fail
    refine(IH s (p+2) _ (by simp) _ (by have:=HS.out;omega)).mono ?_;rintro e w2 ⟨rfl,rfl⟩
    by_cases c2:p+2<s.size∧(s.get! (p+2)).toNat/ 64=2
    ·rw[(GY c2).1,(GY c2).2];have C2:=aa c2;clear c2
     obtain⟨l2,hl2⟩:∃l,(s.get! (p+2)).toNat% 64=l:=⟨_,rfl⟩;rw[hl2];have bl2:(l2:Int)≤63:=by omega
     have HL2:=aa hl2;clear hl2
     obtain⟨q2,hq2⟩:∃q:Nat,64*(q1:Int)+(l2:Int)=(q:Int):=⟨64*q1+l2,by omega⟩;have bq2:(q2:Int)≤65535:=by omega
     have HQ2:=aa hq2
     go_wp2
     by_cases z1:q2<2048
     ·have tz1:decide ((q2:Int)<2048)=true:=au (by omega);have HF:Hid (GJ s p=(0,0)):=aa (GQ (Hi (by rw[HXX.out];omega) (by rw[HXX.out];have k0:=M0.out;have k00:=HM0.out;have k000:=HS.out;have k1:=C1.out;have kk1:=HL1.out;have kkk1:=HQ1.out;have k2:=C2.out;have kk2:=HL2.out;have kkk2:=HQ2.out;omega) (by rw[HXX.out];have k0:=M0.out;have k00:=HM0.out;have k000:=HS.out;have k1:=C1.out;have kk1:=HL1.out;have kkk1:=HQ1.out;have k2:=C2.out;have kk2:=HL2.out;have kkk2:=HQ2.out;omega) (by rw[HXX.out];have k0:=M0.out;have k00:=HM0.out;have k000:=HS.out;have k1:=C1.out;have kk1:=HL1.out;have kkk1:=HQ1.out;have k2:=C2.out;have kk2:=HL2.out;have kkk2:=HQ2.out;omega)));clear z1;rw[GD]
      go_wp2
      go_ret2
      exact⟨by rw[HF.out];rfl,rfl⟩
     ·have tz1:decide ((q2:Int)<2048)=false:=ah (by omega)
      by_cases z2:1114111<q2
      ·have tz2:decide ((1114111:Int)<(q2:Int))=true:=au (by omega);omega
      ·have tz2:decide ((1114111:Int)<(q2:Int))=false:=ah (by omega)
       by_cases z3:55296≤q2
       ·have tz3:decide ((55296:Int)≤(q2:Int))=true:=au (by omega)
        by_cases z4:q2≤57343
        ·have tz4:decide ((q2:Int)≤57343)=true:=au (by omega);have HF:Hid (GJ s p=(0,0)):=aa (GQ (Hi (by rw[HXX.out];omega) (by rw[HXX.out];have k0:=M0.out;have k00:=HM0.out;have k000:=HS.out;have k1:=C1.out;have kk1:=HL1.out;have kkk1:=HQ1.out;have k2:=C2.out;have kk2:=HL2.out;have kkk2:=HQ2.out;omega) (by rw[HXX.out];have k0:=M0.out;have k00:=HM0.out;have k000:=HS.out;have k1:=C1.out;have kk1:=HL1.out;have kkk1:=HQ1.out;have k2:=C2.out;have kk2:=HL2.out;have kkk2:=HQ2.out;omega) (by rw[HXX.out];have k0:=M0.out;have k00:=HM0.out;have k000:=HS.out;have k1:=C1.out;have kk1:=HL1.out;have kkk1:=HQ1.out;have k2:=C2.out;have kk2:=HL2.out;have kkk2:=HQ2.out;omega)));clear z1 z2 z3 z4;rw[GD]
         go_wp2
         go_ret2
         exact⟨by rw[HF.out];rfl,rfl⟩
        ·have tz4:decide ((q2:Int)≤57343)=false:=ah (by omega);have HF:Hid (GJ s p=(q2,3)):=aa (Jc (by have k0:=M0.out;have k00:=HM0.out;have k000:=HS.out;have k1:=C1.out;have kk1:=HL1.out;have kkk1:=HQ1.out;have k2:=C2.out;have kk2:=HL2.out;have kkk2:=HQ2.out;replace k00:=k00;rw[show q2=x.toNat% 16*4096+(s.get! (p+1)).toNat% 64*64+(s.get! (p+2)).toNat% 64 by omega];rw[HXX.out];exact OH (by omega) (by omega) (by omega) (by omega) (by omega) (by omega)) (.inr (by omega)));clear z1 z2 z3 z4;rw[GD]
         go_wp2
         go_ret2
         exact⟨by rw[HF.out];rfl,rfl⟩
       ·have tz3:decide ((55296:Int)≤(q2:Int))=false:=ah (by omega);have HF:Hid (GJ s p=(q2,3)):=aa (Jc (by have k0:=M0.out;have k00:=HM0.out;have k000:=HS.out;have k1:=C1.out;have kk1:=HL1.out;have kkk1:=HQ1.out;have k2:=C2.out;have kk2:=HL2.out;have kkk2:=HQ2.out;replace k00:=k00;rw[show q2=x.toNat% 16*4096+(s.get! (p+1)).toNat% 64*64+(s.get! (p+2)).toNat% 64 by omega];rw[HXX.out];exact OH (by omega) (by omega) (by omega) (by omega) (by omega) (by omega)) (.inr (by omega)));clear z1 z2 z3;rw[GD]
        go_wp2
        go_ret2
        exact⟨by rw[HF.out];rfl,rfl⟩
    ·rw[(G8 c2).1,(G8 c2).2];have HF:Hid (GJ s p=(0,0)):=aa (GQ (Hi (by rw[HXX.out];omega) (by rw[HXX.out];have k0:=M0.out;have k00:=HM0.out;have k000:=HS.out;have k1:=C1.out;have kk1:=HL1.out;have kkk1:=HQ1.out;omega) (by rw[HXX.out];have k0:=M0.out;have k00:=HM0.out;have k000:=HS.out;have k1:=C1.out;have kk1:=HL1.out;have kkk1:=HQ1.out;omega) (by rw[HXX.out];have k0:=M0.out;have k00:=HM0.out;have k000:=HS.out;have k1:=C1.out;have kk1:=HL1.out;have kkk1:=HQ1.out;omega)));clear c2
     go_wp2
     go_ret2
     exact⟨by rw[HF.out];rfl,rfl⟩
   ·rw[(G8 c1).1,(G8 c1).2];have HF:Hid (GJ s p=(0,0)):=aa (GQ (Hi (by rw[HXX.out];omega) (by rw[HXX.out];have k0:=M0.out;have k00:=HM0.out;have k000:=HS.out;omega) (by rw[HXX.out];have k0:=M0.out;have k00:=HM0.out;have k000:=HS.out;omega) (by rw[HXX.out];have k0:=M0.out;have k00:=HM0.out;have k000:=HS.out;omega)));clear c1
    go_wp2
    go_ret2
    exact⟨by rw[HF.out];rfl,rfl⟩
  ·have a1:decide ((192:Int)≤(x.toNat:Int))=true:=au (by omega);have a2:decide ((x.toNat:Int)<224)=false:=ah (by omega);have a3:decide ((224:Int)≤(x.toNat:Int))=true:=au (by omega);have a4:decide ((x.toNat:Int)<240)=false:=ah (by omega);have a5:decide ((240:Int)≤(x.toNat:Int))=true:=au (by omega);have a6:decide ((x.toNat:Int)<248)=true:=au (by omega);have hm:(x.toNat:Int) - 240=((x.toNat% 8:Nat):Int):=by omega
   have hmb:((x.toNat% 8:Nat):Int)≤7:=by omega
   have M0:Hid (x.toNat/ 8=30):=aa (by omega);obtain⟨m0,hm0⟩:∃m0,x.toNat% 8=m0:=⟨_,rfl⟩;rw[hm0]at hm hmb;have HM0:=aa hm0;clear hm0 g1 g2 h256
   go_enter Tryz.func327,Tryz.ntmps327
   go_wp2
   refine wp_loop_rounds 4 ?_;rw[GD]
   go_wp2_with fail
   refine(IH s (p+1) _ (by simp) _ (by have:=HS.out;omega)).mono ?_;rintro e w1 ⟨rfl,rfl⟩
   by_cases c1:p+1<s.size∧(s.get! (p+1)).toNat/ 64=2
   ·rw[(GY c1).1,(GY c1).2];have C1:=aa c1;clear c1
    obtain⟨l1,hl1⟩:∃l,(s.get! (p+1)).toNat% 64=l:=⟨_,rfl⟩;rw[hl1];have bl1:(l1:Int)≤63:=by omega
    have HL1:=aa hl1;clear hl1
    obtain⟨q1,hq1⟩:∃q:Nat,64*(m0:Int)+(l1:Int)=(q:Int):=⟨64*m0+l1,by omega⟩;have bq1:(q1:Int)≤511:=by omega
    have HQ1:=aa hq1
    go_wp2
    rw[GD]
    go_wp2_with fail
    refine(IH s (p+2) _ (by simp) _ (by have:=HS.out;omega)).mono ?_;rintro e w2 ⟨rfl,rfl⟩
    by_cases c2:p+2<s.size∧(s.get! (p+2)).toNat/ 64=2
    ·rw[(GY c2).1,(GY c2).2];have C2:=aa c2;clear c2
     obtain⟨l2,hl2⟩:∃l,(s.get! (p+2)).toNat% 64=l:=⟨_,rfl⟩;rw[hl2];have bl2:(l2:Int)≤63:=by omega
     have HL2:=aa hl2;clear hl2
     obtain⟨q2,hq2⟩:∃q:Nat,64*(q1:Int)+(l2:Int)=(q:Int):=⟨64*q1+l2,by omega⟩;have bq2:(q2:Int)≤32767:=by omega
     have HQ2:=aa hq2
     go_wp2
     rw[GD]
     go_wp2_with fail
     refine(IH s (p+3) _ (by simp) _ (by have:=HS.out;omega)).mono ?_;rintro e w3 ⟨rfl,rfl⟩
     by_cases c3:p+3<s.size∧(s.get! (p+3)).toNat/ 64=2
     ·rw[(GY c3).1,(GY c3).2];have C3:=aa c3;clear c3
      obtain⟨l3,hl3⟩:∃l,(s.get! (p+3)).toNat% 64=l:=⟨_,rfl⟩;rw[hl3];have bl3:(l3:Int)≤63:=by omega
      have HL3:=aa hl3;clear hl3
      obtain⟨q3,hq3⟩:∃q:Nat,64*(q2:Int)+(l3:Int)=(q:Int):=⟨64*q2+l3,by omega⟩;have bq3:(q3:Int)≤2097151:=by omega
      have HQ3:=aa hq3
      go_wp2
      by_cases z1:q3<65536
      ·have tz1:decide ((q3:Int)<65536)=true:=au (by omega);have HF:Hid (GJ s p=(0,0)):=aa (GQ (Hi (by rw[HXX.out];omega) (by rw[HXX.out];have k0:=M0.out;have k00:=HM0.out;have k000:=HS.out;have k1:=C1.out;have kk1:=HL1.out;have kkk1:=HQ1.out;have k2:=C2.out;have kk2:=HL2.out;have kkk2:=HQ2.out;have k3:=C3.out;have kk3:=HL3.out;have kkk3:=HQ3.out;omega) (by rw[HXX.out];have k0:=M0.out;have k00:=HM0.out;have k000:=HS.out;have k1:=C1.out;have kk1:=HL1.out;have kkk1:=HQ1.out;have k2:=C2.out;have kk2:=HL2.out;have kkk2:=HQ2.out;have k3:=C3.out;have kk3:=HL3.out;have kkk3:=HQ3.out;omega) (by rw[HXX.out];have k0:=M0.out;have k00:=HM0.out;have k000:=HS.out;have k1:=C1.out;have kk1:=HL1.out;have kkk1:=HQ1.out;have k2:=C2.out;have kk2:=HL2.out;have kkk2:=HQ2.out;have k3:=C3.out;have kk3:=HL3.out;have kkk3:=HQ3.out;omega)));clear z1;rw[GD]
       go_wp2
       go_ret2
       exact⟨by rw[HF.out];rfl,rfl⟩
      ·have tz1:decide ((q3:Int)<65536)=false:=ah (by omega)
       by_cases z2:1114111<q3
       ·have tz2:decide ((1114111:Int)<(q3:Int))=true:=au (by omega);have HF:Hid (GJ s p=(0,0)):=aa (GQ (Hi (by rw[HXX.out];omega) (by rw[HXX.out];have k0:=M0.out;have k00:=HM0.out;have k000:=HS.out;have k1:=C1.out;have kk1:=HL1.out;have kkk1:=HQ1.out;have k2:=C2.out;have kk2:=HL2.out;have kkk2:=HQ2.out;have k3:=C3.out;have kk3:=HL3.out;have kkk3:=HQ3.out;omega) (by rw[HXX.out];have k0:=M0.out;have k00:=HM0.out;have k000:=HS.out;have k1:=C1.out;have kk1:=HL1.out;have kkk1:=HQ1.out;have k2:=C2.out;have kk2:=HL2.out;have kkk2:=HQ2.out;have k3:=C3.out;have kk3:=HL3.out;have kkk3:=HQ3.out;omega) (by rw[HXX.out];have k0:=M0.out;have k00:=HM0.out;have k000:=HS.out;have k1:=C1.out;have kk1:=HL1.out;have kkk1:=HQ1.out;have k2:=C2.out;have kk2:=HL2.out;have kkk2:=HQ2.out;have k3:=C3.out;have kk3:=HL3.out;have kkk3:=HQ3.out;omega)));clear z1 z2;rw[GD]
        go_wp2
        go_ret2
        exact⟨by rw[HF.out];rfl,rfl⟩
       ·have tz2:decide ((1114111:Int)<(q3:Int))=false:=ah (by omega)
        by_cases z3:55296≤q3
        ·have tz3:decide ((55296:Int)≤(q3:Int))=true:=au (by omega)
         by_cases z4:q3≤57343
         ·have tz4:decide ((q3:Int)≤57343)=true:=au (by omega);omega
         ·have tz4:decide ((q3:Int)≤57343)=false:=ah (by omega);have HF:Hid (GJ s p=(q3,4)):=aa (Jc (by have k0:=M0.out;have k00:=HM0.out;have k000:=HS.out;have k1:=C1.out;have kk1:=HL1.out;have kkk1:=HQ1.out;have k2:=C2.out;have kk2:=HL2.out;have kkk2:=HQ2.out;have k3:=C3.out;have kk3:=HL3.out;have kkk3:=HQ3.out;replace k00:=k00;rw[show q3=x.toNat% 8*262144+(s.get! (p+1)).toNat% 64*4096+(s.get! (p+2)).toNat% 64*64+(s.get! (p+3)).toNat% 64 by omega];rw[HXX.out];exact PX (by omega) (by omega) (by omega) (by omega) (by omega) (by omega) (by omega)) (.inr (by omega)));clear z1 z2 z3 z4;rw[GD]
          go_wp2
          go_ret2
          exact⟨by rw[HF.out];rfl,rfl⟩
        ·have tz3:decide ((55296:Int)≤(q3:Int))=false:=ah (by omega);omega
     ·rw[(G8 c3).1,(G8 c3).2];have HF:Hid (GJ s p=(0,0)):=aa (GQ (Hi (by rw[HXX.out];omega) (by rw[HXX.out];have k0:=M0.out;have k00:=HM0.out;have k000:=HS.out;have k1:=C1.out;have kk1:=HL1.out;have kkk1:=HQ1.out;have k2:=C2.out;have kk2:=HL2.out;have kkk2:=HQ2.out;omega) (by rw[HXX.out];have k0:=M0.out;have k00:=HM0.out;have k000:=HS.out;have k1:=C1.out;have kk1:=HL1.out;have kkk1:=HQ1.out;have k2:=C2.out;have kk2:=HL2.out;have kkk2:=HQ2.out;omega) (by rw[HXX.out];have k0:=M0.out;have k00:=HM0.out;have k000:=HS.out;have k1:=C1.out;have kk1:=HL1.out;have kkk1:=HQ1.out;have k2:=C2.out;have kk2:=HL2.out;have kkk2:=HQ2.out;omega)));clear c3
      go_wp2
      go_ret2
      exact⟨by rw[HF.out];rfl,rfl⟩
    ·rw[(G8 c2).1,(G8 c2).2];have HF:Hid (GJ s p=(0,0)):=aa (GQ (Hi (by rw[HXX.out];omega) (by rw[HXX.out];have k0:=M0.out;have k00:=HM0.out;have k000:=HS.out;have k1:=C1.out;have kk1:=HL1.out;have kkk1:=HQ1.out;omega) (by rw[HXX.out];have k0:=M0.out;have k00:=HM0.out;have k000:=HS.out;have k1:=C1.out;have kk1:=HL1.out;have kkk1:=HQ1.out;omega) (by rw[HXX.out];have k0:=M0.out;have k00:=HM0.out;have k000:=HS.out;have k1:=C1.out;have kk1:=HL1.out;have kkk1:=HQ1.out;omega)));clear c2
     go_wp2
     go_ret2
     exact⟨by rw[HF.out];rfl,rfl⟩
   ·rw[(G8 c1).1,(G8 c1).2];have HF:Hid (GJ s p=(0,0)):=aa (GQ (Hi (by rw[HXX.out];omega) (by rw[HXX.out];have k0:=M0.out;have k00:=HM0.out;have k000:=HS.out;omega) (by rw[HXX.out];have k0:=M0.out;have k00:=HM0.out;have k000:=HS.out;omega) (by rw[HXX.out];have k0:=M0.out;have k00:=HM0.out;have k000:=HS.out;omega)));clear c1
    go_wp2
    go_ret2
    exact⟨by rw[HF.out];rfl,rfl⟩
  ·have a1:decide ((192:Int)≤(x.toNat:Int))=true:=au (by omega);have a2:decide ((x.toNat:Int)<224)=false:=ah (by omega);have a3:decide ((224:Int)≤(x.toNat:Int))=true:=au (by omega);have a4:decide ((x.toNat:Int)<240)=false:=ah (by omega);have a5:decide ((240:Int)≤(x.toNat:Int))=true:=au (by omega);have a6:decide ((x.toNat:Int)<248)=false:=ah (by omega);have HF:Hid (GJ s p=(0,0)):=aa (GQ (Hi (by rw[HXX.out];omega) (by rw[HXX.out];omega) (by rw[HXX.out];omega) (by rw[HXX.out];omega)));clear g1 g2 h256
   go_enter Tryz.func327,Tryz.ntmps327
   go_wp2
   go_ret2
   exact⟨by rw[HF.out];rfl,rfl⟩
theorem Mo {s:ByteArray} {p:Nat} (h:(Utf8.decode s p).1=0∨((Utf8.decode s p).1=65533∧(Utf8.decode s p).2=1)):(GJ s p).1=0:=by
 unfold GJ
 split
 ·rfl
 ·rename_i hn;rcases h with h| ⟨h1,h2⟩
  ·exact h
  ·exact absurd (Prod.ext h1 h2) hn
theorem Mp {s:ByteArray} {p:Nat} (h:¬((Utf8.decode s p).1=0∨((Utf8.decode s p).1=65533∧(Utf8.decode s p).2=1))):GJ s p=Utf8.decode s p:=by
 unfold GJ;rw[ae];intro e;rw[e]at h;exact h (.inr ⟨rfl,rfl⟩)
theorem LN (s:ByteArray) (w:World) (hs:s.size≤4611686018427387904):
  Calls Tryz.prog 282 #[.string s] w fun e w'=>e= .returned (.int .i64 (tI s))∧w=w':=by
 have HS:=aa hs
 go_enter Tryz.func282,Tryz.ntmps282
 go_wp2
 go_loopw [3,4,5] (fun a _ _ wr=>∃(pos f:Nat),a= .int .i64 pos∧pos≤s.size∧s.size≤pos+f∧tI s=xD f s pos∧w=wr) (fun a _ _ _=>s.size- (intOf a).toNat)
 case atStart=>exact⟨0,s.size,rfl,by omega,by omega,rfl,rfl⟩
 case round=>
  obtain⟨pos,f,rfl,hle,hfu,hv,rfl⟩:=hrel;have HV:=aa hv;clear hv
  by_cases hp:pos<s.size
  ·obtain⟨f,rfl⟩:∃f',f=f'+1:=⟨f- 1,by omega⟩;have hi:(pos:Int)<(s.size:Int):=by omega
   have hwd:=Lib.decode_width_pos s pos hp;have hwl:pos+(Utf8.decode s pos).2≤s.size:=by rw[Lib.decode_at];have:=xq (s.size- pos) (s.get! pos).toNat (s.get! (pos+1)).toNat (s.get! (pos+2)).toNat (s.get! (pos+3)).toNat (by omega);omega
   have HP:=aa (And.intro hp (And.intro hwd (And.intro hwl hfu)));have hb:Hid (tI s=if(Utf8.decode s pos).1=0∨((Utf8.decode s pos).1=65533∧(Utf8.decode s pos).2=1)then(pos:Int)else xD f s (pos+(Utf8.decode s pos).2)):=aa (by rw[HV.out,xD,if_pos hp]);clear hle hfu HV hp hwd hwl
   by_cases hz:(Utf8.decode s pos).1=0∨((Utf8.decode s pos).1=65533∧(Utf8.decode s pos).2=1)
   ·have HG:Hid (tI s=pos):=aa (by rw[hb.out,if_pos hz]);have HZ:=aa (Mo hz);clear hz hb
    go_wp2_with fail
    refine(La s pos _ HP.out.1 HS.out).mono ?_;rintro e w1 ⟨rfl,rfl⟩;rw[HZ.out];cases hk:((GJ s pos).2:Int)==0
    ·go_wp2
     go_ret
     exact⟨by rw[HG.out];rfl,rfl⟩
    ·go_wp2
     go_ret
     exact⟨by rw[HG.out];rfl,rfl⟩
   ·have HG:Hid (tI s=xD f s (pos+(Utf8.decode s pos).2)):=aa (by rw[hb.out,ae hz]);have HE:=aa (Mp hz);have HC:Hid ((Utf8.decode s pos).1≠0):=aa fun e=>hz (.inl e);clear hz hb
    go_wp2_with fail
    refine(La s pos _ HP.out.1 HS.out).mono ?_;rintro e w1 ⟨rfl,rfl⟩;rw[HE.out];obtain⟨c,hc⟩:∃c,(Utf8.decode s pos).1=c:=⟨_,rfl⟩;obtain⟨wd,hw⟩:∃wd,(Utf8.decode s pos).2=wd:=⟨_,rfl⟩;rw[hc,hw];rw[hc]at HC;rw[hw]at HG HP;have k1:((wd:Int)==0)=false:=ar.2 (by have:=HP.out;omega);have k2:((c:Int)==0)=false:=ar.2 (by have:=HC.out;omega);have k3:(pos:Int)+(wd:Int)≤4611686018427387904:=by have:=HP.out;have:=HS.out;omega
    have k4:(0:Int)≤(pos:Int)+(wd:Int):=by omega
    clear hc hw hs
    go_wp2
    go_roundw
    case rel=>exact⟨pos+wd,f,by simp,by have:=HP.out;omega,by have:=HP.out;omega,HG.out,by first| trivial| rfl⟩
    case measure=>have:=HP.out;simp[intOf];omega
  ·have hfin:tI s= -1:=by
    rw[HV.out];cases f with
    | zero=>rfl
    | succ f=>rw[xD,ae hp]
   have HF:=aa hfin;clear hfin HV
   have hi:¬((pos:Int)<(s.size:Int)):=by omega
   go_wp2
   go_ret
   exact⟨by rw[HF.out];rfl,rfl⟩
theorem MT (s:ByteArray):∀(f pos:Nat),-1≤xD f s pos
 | 0,_=>by simp[xD]
 | f+1,pos=>by
   rw[xD]
   split
   ·split
    ·omega
    ·exact MT s f _
   ·omega
theorem xj (s:ByteArray) (w:World) (hs:s.size≤4611686018427387904):
  Calls Tryz.prog 221 #[.string s] w fun e w'=>e= .returned (.bool (bN s))∧w=w':=by
 by_cases h:s.size≤65535
 ·have h1:decide ((s.size:Int)≤65535)=true:=au (by omega);have hge: -1≤tI s:=MT s _ _;have HF:Hid (bN s=decide (tI s<0)):=aa (by
   unfold bN;rw[au h,aL,eG];simp;omega)
  have HS:=aa hs;clear h hge hs
  go_enter Tryz.func221,Tryz.ntmps221
  go_wp2_with fail
  refine(LN s _ HS.out).mono ?_;rintro e w1 ⟨rfl,rfl⟩;cases hk:decide (tI s<0)
  ·rw[hk]at HF
   go_wp2
   go_ret
   exact⟨by rw[HF.out];rfl,rfl⟩
  ·rw[hk]at HF
   go_wp2
   go_ret
   exact⟨by rw[HF.out];rfl,rfl⟩
 ·have h1:decide ((s.size:Int)≤65535)=false:=ah (by omega);have HF:Hid (bN s=false):=aa (by simp[bN,h]);clear h
  go_enter Tryz.func221,Tryz.ntmps221
  go_wp2
  go_ret
  exact⟨by rw[HF.out];rfl,rfl⟩
end Go.Proofs.YtpcleamaieaefaaGreatDoor
namespace Go.Proofs.YtpcleamaieaefaaGreatDoor
open Go.RowKit
attribute [local go_sem ↓] bD bF bH bI bu
attribute [local go_sem] bc aD bh bg bK bJ bd aY be aO ax cI dC dB dt dj di dA dr dp dn bW co bO bZ bX cz cy cw cu ct cC cn bS bP bR
def Hh (l:List UInt8) (c:UInt8):Bool:=l.contains c
theorem Ji (b:UInt8) (l:List UInt8) (c:UInt8):Hh (b :: l) c=(c==b || Hh l c):=List.contains_cons
theorem Qn {a b:UInt8} (h:a≠b):(a.toNat:Int)≠(b.toNat:Int):=fun x=>h (UInt8.toNat_inj.1 (by omega))
theorem Iv (s:ByteArray) (c:UInt8) (w:World) (hs:s.size≤4611686018427387904):
  Calls Tryz.prog 283 #[.string s,.int .u8 (c.toNat:Int)] w fun e w'=>e= .returned (.bool (Hh (ls s) c))∧w=w':=by
 have HS:=aa hs;clear hs
 go_enter Tryz.func283,Tryz.ntmps283
 go_wp2
 go_loop [5] (fun i=>∃k:Nat,k≤s.size∧i= .int .i64 k∧Hh (ls s) c=Hh ((ls s).drop k) c) (fun i=>s.size- (intOf i).toNat)
 case atStart=>exact⟨0,by omega,rfl,rfl⟩
 case round=>
  obtain⟨k,hk,rfl,hc⟩:=hrel;have HC:=aa hc;clear hc
  by_cases hlt:k<s.size
  ·have hd:=bQ (show k<(ls s).length by rw[aN];exact hlt);rw[uY s k hlt]at hd;obtain⟨b,hb⟩:∃b,s[k]'hlt=b:=⟨_,rfl⟩;rw[hb]at hd;have HD:=aa hd;clear hd
   have b1:(0:Int)≤(k:Int):=by omega
   have b2:(k:Int)<(s.size:Int):=by omega
   have hsz:=HS.out
   by_cases h:b=c
   ·have e1:((b.toNat:Int)==(c.toNat:Int))=true:=aK.2 (by rw[h]);have HX:Hid (Hh (ls s) c=true):=aa (by rw[HC.out,HD.out,h,Ji,beq_self_eq_true,Bool.true_or]);clear h
    go_wp2
    go_ret
    exact⟨by rw[HX.out];rfl,rfl⟩
   ·have e1:((b.toNat:Int)==(c.toNat:Int))=false:=ar.2 (Qn h);have HX:Hid (Hh (ls s) c=Hh ((ls s).drop (k+1)) c):=aa (by
     rw[HC.out,HD.out,Ji,ar.2 (fun x=>h x.symm),nB])
    clear h
    go_wp2
    go_round
    case rel=>exact⟨k+1,by omega,by go_num,HX.out⟩
    case measure=>simp[intOf];omega
  ·have HX:Hid (Hh (ls s) c=false):=aa (by rw[HC.out,gF (by rw[aN];omega)];rfl);have b2:(s.size:Int)≤(k:Int):=by omega
   clear hlt
   go_wp2
   go_ret
   exact⟨by rw[HX.out];rfl,rfl⟩
theorem Ky (s:ByteArray):mg s=(Hh (ls s) 43 || Hh (ls s) 35):=by
 unfold mg;generalize ls s=l
 induction l with
 | nil=>rfl
 | cons b l ih=>
   rw[List.any_cons,ih,Ji,Ji,lf]
   by_cases h1:b=43
   ·subst h1;simp
   ·by_cases h2:b=35
    ·subst h2;simp
    ·have e:decide (b.toNat=43∨b.toNat=35)=false:=ah (by
      rintro (x| x)
      ·exact h1 (UInt8.toNat_inj.1 x)
      ·exact h2 (UInt8.toNat_inj.1 x))
     rw[e,ar.2 (fun x=>h1 x.symm),ar.2 (fun x=>h2 x.symm)];simp
theorem Hg (s:ByteArray) (w:World) (hs:s.size≤4611686018427387904):
  Calls Tryz.prog 222 #[.string s] w fun e w'=>e= .returned (.bool (fp s))∧w=w':=by
 have HE:Hid (fp s=((decide (s.size≠0)&&bN s)&& !(Hh (ls s) 43 || Hh (ls s) 35))):=aa (by unfold fp jY;rw[Ky]);have hem:=kR s;have HS:=aa hs;clear hs
 go_enter Tryz.func222,Tryz.ntmps222
 by_cases h0:s.size=0
 ·rw[au h0]at hem;have HX:Hid (fp s=false):=aa (by rw[HE.out,ah (fun x=>x h0)];rfl);clear h0
  go_wp2
  go_ret
  exact⟨by rw[HX.out];rfl,rfl⟩
 rw[ah h0]at hem;have HE1:Hid (fp s=(bN s&& !(Hh (ls s) 43 || Hh (ls s) 35))):=aa (by rw[HE.out,au h0,aL]);clear h0
 go_wp2_with fail
 refine(xj s _ HS.out).mono ?_;rintro e w1 ⟨rfl,rfl⟩;cases hv:bN s
 ·have HX:Hid (fp s=false):=aa (by rw[HE1.out,hv];rfl);clear hv
  go_wp2
  go_ret
  exact⟨by rw[HX.out];rfl,rfl⟩
 have HE2:Hid (fp s= !(Hh (ls s) 43 || Hh (ls s) 35)):=aa (by rw[HE1.out,hv,aL]);clear hv
 go_wp2_with fail
 refine(Iv s 43 _ HS.out).mono ?_;rintro e w1 ⟨rfl,rfl⟩;cases h1:Hh (ls s) 43;rotate_left
 ·have HX:Hid (fp s=false):=aa (by rw[HE2.out,h1];rfl);clear h1
  go_wp2
  go_ret
  exact⟨by rw[HX.out];rfl,rfl⟩
 have HE3:Hid (fp s= !Hh (ls s) 35):=aa (by rw[HE2.out,h1,nB]);clear h1
 go_wp2_with fail
 refine(Iv s 35 _ HS.out).mono ?_;rintro e w1 ⟨rfl,rfl⟩
 go_wp2
 go_ret
 exact⟨by rw[HE3.out];rfl,rfl⟩
abbrev NB (g0 g1:Nat) (p:Pk) (h k:Hs) (Y:ByteArray) (W x:World):Prop:=(kZ (.pointer (some ⟨g0,0,none⟩))).run Tryz.prog x= .ok (pkV p h) x∧(kZ (.pointer (some ⟨g1,0,none⟩))).run Tryz.prog x= .ok (pkV p k) x∧x.cell? ⟨g0,6,none⟩=some (.string Y)∧Below W.heap.size W x
section
variable {w W x y:World} {g0 g1:Nat} {p:Pk} {h k:Hs} {Y:ByteArray}
end
end Go.Proofs.YtpcleamaieaefaaGreatDoor
namespace Go.Proofs.YtpcleamaieaefaaGreatDoor
open Go.RowKit
attribute [local go_sem ↓] bD bF bH bI bu
attribute [local go_sem] bc aD bh bg bK bJ bd aY be aO ax cI dC dB dt dj di dA dr dp dn bW co bO bZ bX cz cy cw cu ct cC cn bS bP bR
def flQ (p:Pk):Int:=if p.kind=1 then flN p else 0
theorem NA (p:Pk):0≤flN p∧flN p<256:=by
 have:∀b n,pc b n=0∨pc b n=n:=fun b n=>by unfold pc;split;exact .inr rfl;exact .inl rfl
 unfold flN;have h1:=this p.hasUser 128;have h2:=this p.hasPass 64;have h3:=this p.will.retain 32;have h4:=this p.hasWill 4;have h5:=this p.clean 2
 omega
end Go.Proofs.YtpcleamaieaefaaGreatDoor
namespace Go.Proofs.YtpcleamaieaefaaGreatDoor
open Go.RowKit
theorem JK {t:ByteArray} {a:Nat} {x:ByteArray} {rest:List UInt8} (ha:a≤t.size) (hx:x.size≤65535) (h:(ls t).drop a=da x.size 2++(ls x++rest)):eB t a 0=(x,a+2+x.size,0)∧a+2+x.size≤t.size∧(ls t).drop (a+2+x.size)=rest:=by
 have hl:=congrArg List.length h;rw[bU,List.length_append,List.length_append,fM,aN,aN]at hl;have hn:br t a 0 2=x.size:=by rw[show((2:Int))=((2:Nat):Int)from rfl,sc (k:=2) h (fM _ _) ha,H7 _ (by omega)]
 have h2:aH t a 0 2=(t.extract a (a+2),a+2,0):=dZ (k:=2) (by omega);have hd:(ls t).drop (a+2)=ls x++rest:=by rw[←et,h,GU (fM _ _)]
 refine⟨?_,by omega,by rw[←et,hd,GU (aN _)]⟩;unfold eB;rw[h2,hn];simp only;rw[dZ (by omega)]
 congr 1
 refine eX ?_;rw[db,hd,←aN,List.take_left'];rfl
theorem Jg {t:ByteArray} {a:Nat} {x:ByteArray} {rest:List UInt8} (ha:a≤t.size) (hv:bN x=true) (h:(ls t).drop a=da x.size 2++(ls x++rest)):fX t a 0=(x,a+2+x.size,0)∧a+2+x.size≤t.size∧(ls t).drop (a+2+x.size)=rest:=by
 have hx:x.size≤65535:=by
  unfold bN at hv;rw[eh]at hv;exact aR hv.1
 obtain⟨h1,h2,h3⟩:=JK ha hx h;refine⟨?_,h2,h3⟩;unfold fX;rw[h1];simp only;rw[if_pos hv]
theorem JG {v k:Int} {l:List Pr} {t:ByteArray} {a:Nat} {rest:List UInt8} (ha:a≤t.size) (h4:v=4→l=[]) (hb:(aM k l).2=0) (hn:∀p∈l,p.n<4294967296) (h:(ls t).drop a=gP v k l++rest):
  fv v k t a 0=(l,a+(gP v k l).length,0)∧a+(gP v k l).length≤t.size∧(ls t).drop (a+(gP v k l).length)=rest:=by
 have hl:=congrArg List.length h;rw[bU,List.length_append,aN]at hl;refine⟨?_,by omega,by rw[←et,h,GU rfl]⟩;unfold fv;unfold gP at h⊢
 by_cases hv:v=4
 ·rw[if_pos (.inl hv),if_pos hv,h4 hv];rfl
 ·rw[ae (fun x=>x.elim hv (fun y=>y rfl)),ae hv];rw[ae hv]at h;rw[Jb hb hn (s:=t.extract a t.size) (rest:=rest) (by rw[ju,h])]
theorem Qj:∀q:Fin 3,∀a b c d e:Bool,
  decide ((pc e 128+pc d 64+pc c 32+(q.1:Int) % 4*8+pc b 4+pc a 2).toNat/ 2% 2=1)=a∧decide ((pc e 128+pc d 64+pc c 32+(q.1:Int) % 4*8+pc b 4+pc a 2).toNat/ 4% 2=1)=b∧
  decide ((pc e 128+pc d 64+pc c 32+(q.1:Int) % 4*8+pc b 4+pc a 2).toNat/ 32% 2=1)=c∧decide ((pc e 128+pc d 64+pc c 32+(q.1:Int) % 4*8+pc b 4+pc a 2).toNat/ 64% 2=1)=d∧
  decide ((pc e 128+pc d 64+pc c 32+(q.1:Int) % 4*8+pc b 4+pc a 2).toNat/ 128% 2=1)=e∧(pc e 128+pc d 64+pc c 32+(q.1:Int) % 4*8+pc b 4+pc a 2).toNat/ 8% 4=q.1∧
  (pc e 128+pc d 64+pc c 32+(q.1:Int) % 4*8+pc b 4+pc a 2).toNat% 2=0∧(pc e 128+pc d 64+pc c 32+(q.1:Int) % 4*8+pc b 4+pc a 2).toNat<256∧
  (c=false→q.1=0→(pc e 128+pc d 64+pc c 32+(q.1:Int) % 4*8+pc b 4+pc a 2).toNat/ 8% 8=0):=by decide+kernel
structure FlGood (v:Int) (p:Pk) (f:Nat):Prop where
 clean:decide (f/ 2% 2=1)=p.clean
 will:decide (f/ 4% 2=1)=p.hasWill
 retain:decide (f/ 32% 2=1)=p.will.retain
 pass:decide (f/ 64% 2=1)=p.hasPass
 user:decide (f/ 128% 2=1)=p.hasUser
 qos:((f/ 8% 4:Nat):Int)=p.will.qos
 lt:f<256
 ok:tu v f=true
theorem CnGood.nowill {v:Int} {p:Pk} (g:CnGood v p) (h:p.hasWill=false):p.will=wl0:=by
 have e:=g.same;rw[vJ (by rw[g.kind];decide) h rfl rfl]at e;exact congrArg Pk.will e
theorem CnGood.nouser {v:Int} {p:Pk} (g:CnGood v p) (h:p.hasUser=false):p.user=⟨#[]⟩:=by
 have e:=g.same;rw[vJ (by rw[g.kind];decide) rfl h rfl]at e;exact congrArg Pk.user e
theorem CnGood.nopass {v:Int} {p:Pk} (g:CnGood v p) (h:p.hasPass=false):p.pass=⟨#[]⟩:=by
 have e:=g.same;rw[vJ (by rw[g.kind];decide) rfl rfl h]at e;exact congrArg Pk.pass e
theorem Ld {v:Int} {p:Pk} (g:CnGood v p):FlGood v p (flN p).toNat:=by
 obtain⟨m,hm⟩:∃m:Fin 3,p.will.qos=(m.1:Int):=⟨⟨p.will.qos.toNat,by have:=g.qos;omega⟩,by have:=g.qos;simp only;omega⟩;obtain⟨h1,h2,h3,h4,h5,h6,h7,h8,h9⟩:=Qj m p.clean p.hasWill p.will.retain p.hasPass p.hasUser;have hf:flN p=pc p.hasUser 128+pc p.hasPass 64+pc p.will.retain 32+(m.1:Int) % 4*8+pc p.hasWill 4+pc p.clean 2:=by unfold flN;rw[hm]
 rw[←hf]at h1 h2 h3 h4 h5 h6 h7 h8 h9;refine⟨h1,h2,h3,h4,h5,by rw[h6,hm],h8,?_⟩;unfold tu;rw[h2,h4,h5,ah (show ¬(flN p).toNat% 2=1 by omega),ah (show ¬(flN p).toNat/ 8% 4=3 by have:=m.2;omega)];have hw:(!p.hasWill&&decide ((flN p).toNat/ 8% 8≠0))=false:=by
  cases hh:p.hasWill
  ·have hz:=g.nowill hh;rw[ah (fun y=>y (h9 (by rw[hz];rfl) (by have:p.will.qos=0:=by rw[hz];rfl
                                                                omega)))]
   rfl
  ·rfl
 rw[hw];rcases g.ver with h| h
 ·cases hp:p.hasPass
  ·simp
  ·rw[g.pair h hp];simp
 ·rw[au h];simp
theorem Kj:(ls i8).length=6:=rfl
theorem NO {v:Int} {p:Pk} (g:CnGood v p) (hn:∀q∈p.props,q.n<4294967296) {t:ByteArray} {R:List UInt8} (ht:ls t=f1 v p R):
  ∃a,cn1 v t=(xz (flN p).toNat p.alive.toNat p.client p.props,a,0)∧a≤t.size∧(ls t).drop a=R:=by
 have fg:=Ld g;unfold f1 at ht;have hl:=congrArg List.length ht;rw[aN]at hl;simp only[List.length_append,fM,Kj]at hl;have d6:=congrArg (List.drop 6) ht;rw[GU Kj]at d6;have d7:=congrArg (List.drop 1) d6;rw[et,GU (fM _ _)]at d7
 replace d7:(ls t).drop 7=_:=d7
 have d8:=congrArg (List.drop 1) d7;rw[et,GU (fM _ _)]at d8
 replace d8:(ls t).drop 8=_:=d8
 have d10:=congrArg (List.drop 2) d8;rw[et,GU (fM _ _)]at d10
 replace d10:(ls t).drop 10=_:=d10
 have hv:v.toNat<256∧((v.toNat:Nat):Int)=v:=by have:=g.ver;omega
 have hN:stN t=(6,0):=by
  unfold stN;have h6:aH t 0 0 6=(t.extract 0 (0+6),0+6,0):=dZ (k:=6) (by omega);have hx:t.extract 0 (0+6)=i8:=eX (by
   rw[db,cS,ht];exact List.take_left' Kj)
  rw[h6,hx];show((0+6:Nat),if i8=i8 then(0:Int)else fh 0 5)=_;rw[if_pos rfl]
 have hV:cnV v t=(7,0):=by
  unfold cnV stV;rw[hN];simp only;have h1:aH t 6 0 1=(t.extract 6 (6+1),6+1,0):=dZ (k:=1) (by omega);have h2:br t 6 0 1=v.toNat:=by rw[show((1:Int))=((1:Nat):Int)from rfl,sc (k:=1) d6 (fM _ _) (by omega),Jd _ hv.1]
  rw[h1,h2,if_pos hv.2]
 have hF:cnF v t=((flN p).toNat,8,0):=by
  unfold cnF stG;rw[hV];simp only;have h1:aH t 7 0 1=(t.extract 7 (7+1),7+1,0):=dZ (k:=1) (by omega);have h2:br t 7 0 1=(flN p).toNat:=by rw[show((1:Int))=((1:Nat):Int)from rfl,sc (k:=1) d7 (fM _ _) (by omega),Jd _ fg.lt]
  rw[h1,h2,if_pos fg.ok]
 have hK:cnK v t=(p.alive.toNat,10,0):=by
  unfold cnK stK;rw[hF];simp only;have h1:aH t 8 0 2=(t.extract 8 (8+2),8+2,0):=dZ (k:=2) (by omega);have h2:br t 8 0 2=p.alive.toNat:=by rw[show((2:Int))=((2:Nat):Int)from rfl,sc (k:=2) d8 (fM _ _) (by omega),H7 _ (by have:=g.alive;omega)]
  rw[h1,h2]
 obtain⟨hP,hPle,dP⟩:=JG (v:=v) (k:=1) (a:=10) (by omega) (fun h=>(g.old h).1) g.props hn d10;have hP':cnP v t=(p.props,10+(gP v 1 p.props).length,0):=by unfold cnP;rw[hK];exact hP
 obtain⟨hT,hTle,dT⟩:=Jg hPle g.client dP;have hT':cnT v t=(p.client,10+(gP v 1 p.props).length+2+p.client.size,0):=by unfold cnT;rw[hP'];exact hT
 refine⟨_,?_,hTle,dT⟩;unfold cn1;rw[hF,hK,hP',hT']
theorem NN {v:Int} {p:Pk} (g:CnGood v p) (hn:∀q∈p.will.props,q.n<4294967296) {t:ByteArray} {R:List UInt8} {a:Nat} (ha:a≤t.size) {P:Pk} (h1:P.hasWill=p.hasWill) (h2:P.will= {wl0 with qos:=p.will.qos,retain:=p.will.retain})
  (ht:(ls t).drop a=fW v p R):∃a',cn2 v t (P,a,0)=({P with will:=p.will},a',0)∧a'≤t.size∧(ls t).drop a'=R:=by
 unfold cn2 fW at*;simp only;cases hw:p.hasWill
 ·rw[ae (by rw[h1,hw];decide)];rw[hw,ae (by decide)]at ht;refine⟨a,?_,ha,ht⟩;have:=g.nowill hw;rw[this]at h2⊢;rw[←show P.will=wl0 from h2]
 ·rw[if_pos (by rw[h1,hw])];rw[hw,if_pos rfl]at ht;obtain⟨e1,l1,d1⟩:=JG ha (fun h=>(g.old h).2) g.wprops hn ht;obtain⟨e2,l2,d2⟩:=Jg l1 (g.topic hw) d1;obtain⟨e3,l3,d3⟩:=JK l2 g.payload d2;refine⟨_,?_,l3,d3⟩;have w1:rA v t a 0=(p.will.props,a+(gP v 16 p.will.props).length,0):=e1;have w2:rz v t a 0=(p.will.topic,a+(gP v 16 p.will.props).length+2+p.will.topic.size,0):=by unfold rz;rw[w1];exact e2
  have w3:Aw v t a 0=(p.will.payload,a+(gP v 16 p.will.props).length+2+p.will.topic.size+2+p.will.payload.size,0):=by unfold Aw;rw[w2];exact e3
  rw[w1,w2,w3,h2]
theorem NM {v:Int} {p:Pk} (g:CnGood v p) {t:ByteArray} {R:List UInt8} {a:Nat} (ha:a≤t.size) {P:Pk} (h1:P.hasUser=p.hasUser) (h2:P.user=⟨#[]⟩) (ht:(ls t).drop a=fU p R):
  ∃a',cn3 t (P,a,0)=({P with user:=p.user},a',0)∧a'≤t.size∧(ls t).drop a'=R:=by
 unfold cn3 fU at*;simp only;cases hw:p.hasUser
 ·rw[ae (by rw[h1,hw];decide)];rw[hw,ae (by decide)]at ht;refine⟨a,?_,ha,ht⟩;rw[g.nouser hw,←h2]
 ·rw[if_pos (by rw[h1,hw])];rw[hw,if_pos rfl]at ht;obtain⟨e2,l2,d2⟩:=Jg ha g.user ht;refine⟨_,?_,l2,d2⟩;rw[e2]
theorem NK {v:Int} {p:Pk} (g:CnGood v p) {t:ByteArray} {R:List UInt8} {a:Nat} (ha:a≤t.size) {P:Pk} (h1:P.hasPass=p.hasPass) (h2:P.pass=⟨#[]⟩) (ht:(ls t).drop a=fS p R):
  ∃a',cn4 t (P,a,0)=({P with pass:=p.pass},a',0)∧a'≤t.size∧(ls t).drop a'=R:=by
 unfold cn4 fS at*;simp only;cases hw:p.hasPass
 ·rw[ae (by rw[h1,hw];decide)];rw[hw,ae (by decide)]at ht;refine⟨a,?_,ha,ht⟩;rw[g.nopass hw,←h2]
 ·rw[if_pos (by rw[h1,hw])];rw[hw,if_pos rfl]at ht;obtain⟨e2,l2,d2⟩:=JK ha g.pass ht;refine⟨_,?_,l2,d2⟩;rw[e2]
theorem MG {v:Int} {p:Pk} (g:CnGood v p) (hn:∀q∈p.props,q.n<4294967296) (hw:∀q∈p.will.props,q.n<4294967296) {t:ByteArray} {R:List UInt8} (ht:ls t=f1 v p (fW v p (fU p (fS p R)))):
  ∃a,jS v t=(p,a,0)∧a≤t.size∧(ls t).drop a=R:=by
 have fg:=Ld g;obtain⟨a1,e1,l1,d1⟩:=NO g hn ht;obtain⟨a2,e2,l2,d2⟩:=NN g hw l1 (P:=xz (flN p).toNat p.alive.toNat p.client p.props) fg.will (by
  show({wl0 with qos:=(((flN p).toNat/ 8% 4:Nat):Int),retain:=decide ((flN p).toNat/ 32% 2=1)}:Wl)=_;rw[fg.qos,fg.retain]) d1
 obtain⟨a3,e3,l3,d3⟩:=NM g l2 (P:={xz (flN p).toNat p.alive.toNat p.client p.props with will:=p.will}) fg.user rfl d2;obtain⟨a4,e4,l4,d4⟩:=NK g l3 (P:={xz (flN p).toNat p.alive.toNat p.client p.props with will:=p.will,user:=p.user}) fg.pass rfl d3;refine⟨a4,?_,l4,d4⟩;unfold jS;rw[e1,e2,e3,e4];have e:=g.same;rw[vJ (by rw[g.kind];decide) rfl rfl rfl]at e;obtain⟨-,q2,q3,q4,q5,q6,q7,-,-,-,-,-,-,-,-,-,q17,q18,q19,q20,-⟩:=(nQ _ _).1 e
 congr 1
 rw[nQ];refine⟨g.kind.symm,q2.symm,q3.symm,q4.symm,q5.symm,q6.symm,q7.symm,fg.clean,?_,rfl,fg.user,rfl,fg.pass,rfl,fg.will,rfl,q17.symm,q18.symm,q19.symm,q20.symm,rfl⟩;show((p.alive.toNat:Nat):Int)=p.alive;have:=g.alive;omega
def NS (b:Bool):Nat:=if b=true then 1 else 0
theorem OW (b:Bool):es [(if b=true then(1:UInt8)else 0)]=NS b:=by cases b<;>rfl
theorem MH {v:Int} {p:Pk} (g:CaGood v p) (hn:∀q∈p.props,q.n<4294967296) {t:ByteArray} {R:List UInt8} (ht:ls t=ls (vP v p)++R):
  ∃a,lL v t=(p,a,0)∧a≤t.size∧(ls t).drop a=R:=by
 rw[Gl v p g.kind]at ht;have hl:=congrArg List.length ht;rw[aN]at hl;simp only[List.length_append,fM,qU]at hl;have d0:(ls t).drop 0=_:=ht;have d1:=congrArg (List.drop 1) ht;rw[GU (show [(if p.session=true then(1:UInt8)else 0)].length=1 from rfl)]at d1;have d2:=congrArg (List.drop 1) d1;rw[et,GU (fM _ _)]at d2
 replace d2:(ls t).drop 2=_:=d2
 have hF:caF t=(NS p.session,1,0):=by
  have h1:aH t 0 0 1=(t.extract 0 (0+1),0+1,0):=dZ (k:=1) (by omega);have h2:br t 0 0 1=NS p.session:=by rw[show((1:Int))=((1:Nat):Int)from rfl,sc (k:=1) d0 rfl (by omega),OW]
  unfold caF;rw[h1,h2,if_pos (by unfold NS;split<;>omega)]
 have hC:caC t=(p.code.toNat,2,0):=by
  unfold caC;rw[hF];simp only;have h1:aH t 1 0 1=(t.extract 1 (1+1),1+1,0):=dZ (k:=1) (by omega);have h2:br t 1 0 1=p.code.toNat:=by rw[show((1:Int))=((1:Nat):Int)from rfl,sc (k:=1) d1 (fM _ _) (by omega),Jd _ (by have:=g.code;omega)]
  rw[h1,h2]
 obtain⟨hP,hPle,dP⟩:=JG (v:=v) (k:=2) (a:=2) (by omega) g.old g.props hn d2;have hP':caP v t=(p.props,2+(gP v 2 p.props).length,0):=by unfold caP;rw[hC];exact hP
 refine⟨_,?_,hPle,dP⟩;unfold lL;rw[hF,hC,hP']
 congr 1
 have e:=g.same;rw[e];unfold Ds;have hc:((p.code.toNat:Nat):Int)=p.code:=by have:=g.code;omega
 have hs:decide (NS p.session=1)=p.session:=by cases p.session<;>rfl
 simp only;rw[hc,hs,g.kind]
theorem Nj {v:Int} {p:Pk} (x:eR v p=0) (hn:∀q∈p.props,q.n<4294967296) (hw:∀q∈p.will.props,q.n<4294967296) {t:ByteArray} {R:List UInt8} (ht:ls t=ls (Dm v p).1++R):
  ∃a,rdK v p.kind t=(p,a,0)∧a≤t.size∧(ls t).drop a=R:=by
 rw[og x]at ht;unfold rdK;rcases Dk x with h| h
 ·rw[if_pos h];rw[ae (by omega)]at ht;have g:=su x h;exact MG g hn hw (ht.trans (Gk g R))
 ·rw[ae (by omega)];rw[if_pos h]at ht;exact MH (Az x h) hn ht
theorem MF {v:Int} {p:Pk} (x:eR v p=0) (hn:∀q∈p.props,q.n<4294967296) (hw:∀q∈p.will.props,q.n<4294967296):iB v p.kind (Dm v p).1=(p,0):=by
 obtain⟨a,e,hle,hd⟩:=Nj x hn hw (t:=(Dm v p).1) (R:=[]) (cW _).symm;obtain⟨g1,g2,-,-⟩:=nq x;rw[E0 g1 g2,e];have hz:(Dm v p).1.size- a=0:=by
  have:=congrArg List.length hd;rw[bU,aN]at this;exact this
 unfold jT oV;simp only;rw[if_pos hz,ae (fun y=>y rfl),ae (fun y=>y x)]
end Go.Proofs.YtpcleamaieaefaaGreatDoor
namespace Go.Proofs.YtpcleamaieaefaaGreatDoor
open Go.RowKit
attribute [local go_sem ↓] bD bF bH bI bu
attribute [local go_sem] bc aD bh bg bK bJ bd aY be aO ax cI dC dB dt dj di dA dr dp dn bW co bO bZ bX cz cy cw cu ct cC cn bS bP bR
theorem G9 (s:ByteArray):(qE s).size≤65537:=by
 unfold qE
 split
 ·unfold cQ;rw[cK,GW,fM];omega
 ·exact ag _
theorem Jr (v k:Int) (l:List Pr):(tW v k l).size≤131075004:=by
 unfold tW
 split
 ·exact ag _
 ·rw[GW]
  by_cases h:(aM k l).2=0
  ·exact(G6 k l h).2
  ·rw[Ix k l h];exact ag _
theorem OO {v:Int} {p:Pk} (x:eR v p=0) (h2:p.kind≠2):p.kind=1∧(v=4∨v=5)∧(0≤p.alive∧p.alive<65536∧0≤p.will.qos∧p.will.qos≤2):=by
 obtain⟨g1,g2,g3,g4⟩:=nq x;have h1:p.kind=1:=(aR (show decide (p.kind=1∨p.kind=2)=true from g2)).resolve_right h2;refine⟨h1,aR (show decide (v=4∨v=5)=true from g1),?_⟩;unfold dU at g4
 split at g4
 ·cases g4
 ·split at g4
  ·cases g4
  ·exact aR g4
end Go.Proofs.YtpcleamaieaefaaGreatDoor
namespace Go.Proofs.YtpcleamaieaefaaGreatDoor
open Go.RowKit
theorem Mz {v:Int} {p:Pk} (g:ConGood v p) (hn:∀q∈p.props,q.n<4294967296) {s:ByteArray} (hs:ls s=xV p.code p.props p.kind):gX v p.kind s=(p,0):=by
 rw[g.tail]at hs;have ht:fA v p.kind s=(p.code,p.props,0):=by
  unfold fA;cases e:fO v p.kind
  ·rw[ae (by decide)];obtain⟨e1,e2⟩:=g.old e;have hz:oG p.kind p.code p.props=[]:=by unfold oG;rw[if_pos ⟨e1,by rw[e2];rfl⟩]
   rw[hz]at hs;have:=congrArg List.length hs;rw[aN]at this;rw[e1,e2,ae (fun x=>x this)]
  ·rw[if_pos rfl];have hr:=JU (t:=s) (a:=0) (by rw[cS];exact hs) (by omega) g.c1 g.c2 g.bytes hn;have he:pK p.kind s=0:=by
    unfold pK;rw[hr];simp
   unfold iO;rw[he,ae (by decide),hr]
 have hp:fN v p.kind s=p:=by
  unfold fN;rw[ht];have:=g.same;unfold conQ at this;cases e:fO v p.kind
  ·obtain⟨e1,e2⟩:=g.old e;rw[ae (by rw[e];decide)]at this;rw[e1,e2];exact this.symm
  ·rw[if_pos e]at this;exact this.symm
 unfold gX;rw[g.k,ae (by decide),ht,ae (fun x=>x rfl),hp,g.ok,ae (by decide)]
end Go.Proofs.YtpcleamaieaefaaGreatDoor
namespace Go.Proofs.YtpcleamaieaefaaGreatDoor
open Go.RowKit Go.Shelf
theorem P8 (s:ByteArray):lvs s≠[]:=fun h=>by have:=n7 s;rw[h]at this;simp at this
def Ju (x:ByteArray) (last:Bool):Bool:=!((Hh (ls x) 43&& !(x.toList==[43])) || (Hh (ls x) 35&&(!(x.toList==[35]) || !last)))
theorem KV (x:ByteArray) (last:Bool):Ju x last=j8 x last:=by
 unfold Ju j8 mi;rw[Ky,Gc];generalize ls x=l
 by_cases h1:l=[43]
 ·subst h1;cases last<;>rfl
 ·by_cases h2:l=[35]
  ·subst h2;cases last<;>rfl
  ·rw[ar.2 h1,ar.2 h2];cases Hh l 43<;>cases Hh l 35<;>rfl
def jt:List ByteArray→List UInt8
 | []=>[]
 | x :: l=>47 :: (ls x++jt l)
def jn:List ByteArray→List UInt8
 | []=>[]
 | x :: l=>ls x++jt l
theorem Ou:∀l m,jt (l++m)=jt l++jt m
 | [],_=>rfl
 | x :: l,m=>by rw[IJ,jt,jt,Ou l m];simp
theorem PF (l:List ByteArray) (x:ByteArray):jn (l++[x])=if l=[]then ls x else jn l++47 :: ls x:=by
 cases l with
 | nil=>simp[jn,jt]
 | cons y l=>rw[ae (by simp),IJ,jn,jn,Ou];simp[jt]
theorem On {s:ByteArray} {i:Nat} (h:(ls s)[i]? =some 47):ls s=ls (s.extract 0 i)++47 :: ls (s.extract (i+1) s.size):=by
 have e1:ls (s.extract 0 i)=(ls s).take i:=by
  show(s.extract 0 i).data.toList=_;rw[Lib.extract_from_zero];rfl
 have e2:ls (s.extract (i+1) s.size)=(ls s).drop (i+1):=by
  show(s.extract (i+1) s.size).data.toList=_;rw[Lib.extract_to_end];rfl
 obtain⟨hi,he⟩:=cR.1 h;rw[e1,e2,←he,←bQ hi,cg]
theorem Ov (s:ByteArray):jn (lvs s)=ls s:=by
 induction s using Ep with
 | h1 s h=>rw[Cm h];simp[jn,jt]
 | h2 s i hi h hn ih=>
   rw[Er h hn,On h];generalize hg:lvs (s.extract (i+1) s.size)=L at*;cases L with
   | nil=>exact absurd hg (P8 _)
   | cons y l=>rw[jn,jt];rw[jn]at ih;rw[ih]
theorem Lc (s:ByteArray) (p:Nat):s.get! p=((ls s)[p]?).getD 0:=by
 by_cases h:p<s.size
 ·rw[List.getElem?_eq_getElem (by rw[aN];exact h),Cz s p h];rfl
 ·rw[aG (by rw[aN];omega)];have h':¬p<s.data.size:=h;show s.data[p]! =_;show s.data[p]! =0;rw[Array.getElem!_eq_getD,Jf,Array.getElem?_eq_none (by omega)];rfl
theorem II (s:ByteArray) (a p:Nat):(s.extract a s.size).get! p=s.get! (a+p):=by
 rw[Lc,Lc,m9,List.getElem?_drop]
theorem Jj (s:ByteArray) {i p:Nat} (h:p<i):(s.extract 0 i).get! p=s.get! p:=by
 rw[Lc,Lc,ix,List.getElem?_take,if_pos h]
theorem OG (s:ByteArray) (a p:Nat):Utf8.decode (s.extract a s.size) p=Utf8.decode s (a+p):=by
 rw[Lib.decode_at,Lib.decode_at,II,II,II,II,aj,show min s.size s.size- a- p=s.size- (a+p) by omega];rfl
theorem Js (s:ByteArray) {i:Nat} (h:i≤s.size):(s.extract 0 i).size=i:=by rw[aj];omega
theorem Lk (s:ByteArray):∀f f' pos,s.size≤pos+f→s.size≤pos+f'→xD f s pos=xD f' s pos
 | 0,0,_,_,_=>rfl
 | 0,f'+1,pos,h,_=>by rw[xD,xD,ae (by omega)]
 | f+1,0,pos,_,h=>by rw[xD,xD,ae (by omega)]
 | f+1,f'+1,pos,h,h'=>by
   rw[xD,xD]
   by_cases hp:pos<s.size
   ·rw[if_pos hp,if_pos hp];have hw:=Lib.decode_width_pos s pos hp;rw[Lk s f f' _ (by omega) (by omega)]
   ·rw[ae hp,ae hp]
theorem Ll (s:ByteArray) (a:Nat):∀f p,(xD f (s.extract a s.size) p= -1↔xD f s (a+p)= -1)
 | 0,_=>Iff.rfl
 | f+1,p=>by
   rw[xD,xD,rJ,OG]
   by_cases hp:a+p<s.size
   ·rw[if_pos (by omega),if_pos hp]
    by_cases hb:(Utf8.decode s (a+p)).1=0∨((Utf8.decode s (a+p)).1=65533∧(Utf8.decode s (a+p)).2=1)
    ·rw[if_pos hb,if_pos hb];omega
    ·rw[ae hb,ae hb,Ll s a f,Nat.add_assoc]
   ·rw[ae (by omega),ae hp]
theorem JT (s:ByteArray) {pos i:Nat} (hlt:pos<i) (h:(s.get! i).toNat<128):pos+(Utf8.decode s pos).2≤i:=by
 rcases tw s pos with ⟨e,-⟩ | ⟨-,-,hj⟩
 ·rw[e];exact hlt
 ·by_cases hc:pos+(Utf8.decode s pos).2≤i
  ·exact hc
  ·have:=hj (i- pos) (by omega);rw[show pos+(i- pos)=i by omega]at this;omega
theorem Lj (s:ByteArray) (i:Nat) (hi:i<s.size) (h:(s.get! i).toNat<128):∀f pos,s.size≤pos+f→pos≤i→xD f s pos= -1→∃f',s.size≤i+f'∧xD f' s i= -1
 | 0,pos,hf,hp,_=>by omega
 | f+1,pos,hf,hp,hb=>by
   by_cases he:pos=i
   ·subst he;exact⟨f+1,hf,hb⟩
   ·have hw:=Lib.decode_width_pos s pos (by omega);have hs:=JT s (pos:=pos) (by omega) h;rw[xD,if_pos (by omega)]at hb
    split at hb
    ·omega
    ·exact Lj s i hi h f _ (by omega) hs hb
theorem OE {n n' b0 b1 b2 b3 c1 c2 c3:Nat} (hb:Lib.decodeN n b0 b1 b2 b3≠(65533,1)) (hw:(Lib.decodeN n b0 b1 b2 b3).2≤n')
  (h1:1<(Lib.decodeN n b0 b1 b2 b3).2→c1=b1) (h2:2<(Lib.decodeN n b0 b1 b2 b3).2→c2=b2) (h3:3<(Lib.decodeN n b0 b1 b2 b3).2→c3=b3):
  Lib.decodeN n' b0 c1 c2 c3=Lib.decodeN n b0 b1 b2 b3:=by
 rcases Lib.decodeN_shape n b0 b1 b2 b3 with ⟨e1,e⟩ | ⟨e1,e2,e3,e4,e⟩ | ⟨e1,e2,e3,e4,e5,e6,e⟩ | ⟨e1,e2,e3,e4,e5,e6,e7,e⟩ | e
 ·rw[e];unfold Lib.decodeN;rw[if_pos e1]
 ·rw[e]at hw h1⊢;rw[h1 (by simp)];exact PY e1 hw e3 e4
 ·rw[e]at hw h1 h2⊢;rw[h1 (by simp),h2 (by simp)];exact OH e1 hw e3 e4 e5 e6
 ·rw[e]at hw h1 h2 h3⊢;rw[h1 (by simp),h2 (by simp),h3 (by simp)];exact PX e1 hw e3 e4 e5 e6 e7
 ·exact absurd e hb
theorem NF (s:ByteArray) {i p:Nat} (hp:p<i) (hi:i≤s.size) (hb:Utf8.decode s p≠(65533,1)) (hw:p+(Utf8.decode s p).2≤i):Utf8.decode (s.extract 0 i) p=Utf8.decode s p:=by
 rw[Lib.decode_at]at hb hw;rw[Lib.decode_at,Lib.decode_at,Js s hi,Jj s hp];refine OE hb (by omega) (fun h=>?_) (fun h=>?_) (fun h=>?_)
 ·rw[Jj s (by omega)]
 ·rw[Jj s (by omega)]
 ·rw[Jj s (by omega)]
theorem Kx (s:ByteArray) (i:Nat) (hi:i<s.size) (h:(s.get! i).toNat<128):∀f pos,s.size≤pos+f→pos≤i→xD f s pos= -1→xD f (s.extract 0 i) pos= -1
 | 0,pos,hf,hp,_=>by omega
 | f+1,pos,hf,hp,hb=>by
   rw[xD,Js s (by omega)]
   by_cases he:pos=i
   ·rw[ae (by omega)]
   ·have hw:=Lib.decode_width_pos s pos (by omega);have hs:=JT s (pos:=pos) (by omega) h;rw[xD,if_pos (by omega)]at hb;rw[if_pos (by omega)]
    split at hb
    ·omega
    ·rename_i hn;rw[NF s (by omega) (by omega) (fun e=>hn (.inr (by rw[e];exact⟨rfl,rfl⟩))) hs,ae hn];exact Kx s i hi h f _ (by omega) hs hb
theorem KA {s:ByteArray} (hv:bN s=true) {a i:Nat} (ha:a<s.size) (h1:(s.get! a).toNat<128) (h0:(s.get! a).toNat≠0) (hi:a+1+i<s.size) (h2:(s.get! (a+1+i)).toNat<128):
  bN ((s.extract (a+1) s.size).extract 0 i)=true:=by
 have hsz:=gL hv;have hb:tI s= -1:=by unfold bN at hv;simp at hv;exact hv.2
 obtain⟨f1,hf1,hb1⟩:=Lj s a ha h1 s.size 0 (by omega) (by omega) hb;obtain⟨f2,hf2,hb2⟩:∃f2,s.size≤a+1+f2∧xD f2 s (a+1)= -1:=by
  cases f1 with
  | zero=>omega
  | succ f1=>
    have hd:Utf8.decode s a=((s.get! a).toNat,1):=by
     rcases tw s a with ⟨e,-⟩ | ⟨-,-,hj⟩
     ·exact e
     ·have:=Lib.decode_width_pos s a ha;have:=hj 0 (by omega);rw[jV]at this;omega
    rw[xD,if_pos ha,hd,ae (by
     rintro (e| ⟨e,-⟩)
     ·exact h0 e
     ·simp only at e;omega)]at hb1
    exact⟨f1,by omega,hb1⟩
 have hb3:xD f2 (s.extract (a+1) s.size) 0= -1:=(Ll s (a+1) f2 0).2 hb2;have hz:=rJ s (a+1);have hb4:=Kx (s.extract (a+1) s.size) i (by omega) (by rw[II];exact h2) f2 0 (by omega) (by omega) hb3;have hz2:=Js (s.extract (a+1) s.size) (i:=i) (by omega);unfold bN;rw[hz2,au (by omega),aL];refine aK.2 ?_;unfold tI;rw[Lk _ _ f2 0 (by omega) (by omega),hb4]
def KU (s:ByteArray):Bool:=
 bN s&&(gV s&&(decide (3≤(lvs s).length)&&((decide (((lvs s).getD 1 ⟨#[]⟩).size≠0)&& !(Hh (ls ((lvs s).getD 1 ⟨#[]⟩)) 43 || Hh (ls ((lvs s).getD 1 ⟨#[]⟩)) 35))&&gj ⟨(jn ((lvs s).drop 2)).toArray⟩)))
theorem Na (s:ByteArray):KU s=fy s:=by
 unfold KU fy;cases hf:gV s
 ·simp
 cases hv:bN s
 ·simp
 simp only[aL];obtain⟨h7,h6,hn6⟩:=vx hf;have hr:kY s=s.extract 7 s.size:=if_pos hf;rw[hr,Er h6 hn6];rcases xk (s.extract 7 s.size)with hno| ⟨i,hi,hh,hno⟩
 ·have e:Lib.indexB (s.extract 7 s.size) ⟨#[47]⟩= -1:=xc hno;rw[show(6+1:Nat)=7 from rfl,Cm hno];unfold ky;rw[if_pos e];rfl
 ·have e:Lib.indexB (s.extract 7 s.size) ⟨#[47]⟩=i:=Aa hh hno;rw[show(6+1:Nat)=7 from rfl,Er hh hno];have hne:¬Lib.indexB (s.extract 7 s.size) ⟨#[47]⟩= -1:=by omega
  have hc:ky (s.extract 7 s.size)=((s.extract 7 s.size).extract 0 i,(s.extract 7 s.size).extract (i+1) (s.extract 7 s.size).size,true):=by
   unfold ky;rw[ae hne,e];rfl
  rw[hc];have hlen:3≤(s.extract 0 6 :: (s.extract 7 s.size).extract 0 i :: lvs ((s.extract 7 s.size).extract (i+1) (s.extract 7 s.size).size)).length:=by
   have:=n7 ((s.extract 7 s.size).extract (i+1) (s.extract 7 s.size).size);simp only[bM];omega
  rw[au hlen];simp only[aL,ji,cS,List.getD_cons_succ,List.getD_cons_zero];rw[Ov,Ck]
  congr 1
  have hz:=rJ s 7;have g6:s.get! 6=47:=by rw[Lc,h6];rfl
  have gi:s.get! (6+1+i)=47:=by
   rw[←II,Lc];rw[hh];rfl
  have hvg:bN ((s.extract 7 s.size).extract 0 i)=true:=KA hv (a:=6) (by omega) (by rw[g6];decide) (by rw[g6];decide) (by omega) (by rw[gi];decide);unfold fp jY;rw[hvg,IK,Ky]
end Go.Proofs.YtpcleamaieaefaaGreatDoor
