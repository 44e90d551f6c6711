/- A part of what the laws stand on: FilC, MSubB, SubM, Rtc. -/
import Derived.Test.YtbdgkkmbnahgiaaGreatDoorMxG0OrdD
import Derived.Shelf.Strings.SplitCore
import Derived.Shelf.Strings.Search3
import Derived.Shelf.Strings.Count
import Derived.Shelf.Strings.Cut
import Derived.Lib.ConvBytes
import Derived.Laws.IdiomCopy
set_option maxRecDepth 10000
set_option maxHeartbeats 8000000
namespace Go.Proofs.YtbdgkkmbnahgiaaGreatDoor
open Go.RowKit Go.Shelf
open Go.Proofs.Tryz
def vg:Ren:=⟨fun| 138=>306| 143=>307| 195=>358| 197=>359| 217=>361| 218=>360| 219=>309| 221=>234| 224=>356| 225=>357| 260=>376| 266=>377| 267=>362| 268=>305| 314=>378| n=>n,fun| 0=>0| 3=>3| 4=>4| 5=>5| 9=>9| 21=>21| 31=>55| 46=>103| 51=>100| 105=>282| 119=>310| 138=>312| 139=>313| 146=>302| n=>n,fun| 1=>0| 3=>1| 4=>2| n=>n⟩
theorem pF:Lays.n221 prog vg where
 mixed:=by kernel_rfl
 f138:=func306.trans (congrArg some (by kernel_rfl))
 f143:=func307.trans (congrArg some (by kernel_rfl))
 f195:=func358.trans (congrArg some (by kernel_rfl))
 f197:=func359.trans (congrArg some (by kernel_rfl))
 f217:=func361.trans (congrArg some (by kernel_rfl))
 f218:=func360.trans (congrArg some (by kernel_rfl))
 f219:=func309.trans (congrArg some (by kernel_rfl))
 f221:=func234.trans (congrArg some (by kernel_rfl))
 f224:=func356.trans (congrArg some (by kernel_rfl))
 f225:=func357.trans (congrArg some (by kernel_rfl))
 f260:=func376.trans (congrArg some (by kernel_rfl))
 f266:=func377.trans (congrArg some (by kernel_rfl))
 f267:=func362.trans (congrArg some (by kernel_rfl))
 f268:=func305.trans (congrArg some (by kernel_rfl))
 f314:=func378.trans (congrArg some (by kernel_rfl))
 t0:=underlying0
 a0:=Tryz.isAgg0
 z0:=Tryz.sizeOf0
 v0:=Tryz.zeroValue0
 t3:=underlying3
 a3:=Tryz.isAgg3
 z3:=Tryz.sizeOf3
 v3:=Tryz.zeroValue3
 t4:=underlying4
 a4:=Tryz.isAgg4
 z4:=Tryz.sizeOf4
 v4:=Tryz.zeroValue4
 t5:=underlying5
 a5:=Tryz.isAgg5
 z5:=Tryz.sizeOf5
 v5:=Tryz.zeroValue5
 t9:=underlying9
 a9:=Tryz.isAgg9
 z9:=Tryz.sizeOf9
 v9:=Tryz.zeroValue9
 t21:=underlying21
 a21:=Tryz.isAgg21
 z21:=Tryz.sizeOf21
 v21:=Tryz.zeroValue21
 t31:=underlying55
 a31:=Tryz.isAgg55
 z31:=Tryz.sizeOf55
 v31:=Tryz.zeroValue55
 t46:=underlying103
 a46:=Tryz.isAgg103
 z46:=Tryz.sizeOf103
 v46:=Tryz.zeroValue103
 t51:=underlying100
 a51:=Tryz.isAgg100
 z51:=Tryz.sizeOf100
 v51:=Tryz.zeroValue100
 t105:=underlying282
 a105:=Tryz.isAgg282
 z105:=Tryz.sizeOf282
 v105:=Tryz.zeroValue282
 t119:=underlying310
 a119:=Tryz.isAgg310
 z119:=Tryz.sizeOf310
 t138:=underlying312
 a138:=Tryz.isAgg312
 z138:=Tryz.sizeOf312
 v138:=Tryz.zeroValue312
 t139:=underlying313
 a139:=Tryz.isAgg313
 z139:=Tryz.sizeOf313
 v139:=Tryz.zeroValue313
 t146:=underlying302
 a146:=Tryz.isAgg302
 z146:=Tryz.sizeOf302
 v146:=Tryz.zeroValue302
 g1:=by kernel_rfl
 g3:=by kernel_rfl
 g4:=by kernel_rfl
theorem vl:(prog.info? 9).map (fun i=>(i.zero,i.size,i.bytes))=some (some (.string ByteArray.empty),1,16):=by kernel_rfl
def sv(l:List ByteArray):List Value:=l.map Value.string
theorem AW(l:List ByteArray):(sv l).length=l.length:=by simp[sv]
theorem EB(x:ByteArray)(w:World):Calls prog 307 #[.string x,.string ⟨#[47]⟩] w fun e w'=>e= .returned (.int .i64 (Lib.indexB x ⟨#[47]⟩))/\w'=w:=by
 have c:Calls prog 307 #[.string x,.string ⟨#[47]⟩] w fun e w'=>e= .returned (.int .i64 (Lib.indexByte x.data.toList 47))/\w'=w:=Any.strings_Index_one {pF with} x 47 w;rw[<-Lib.index_one]at c;exact c
theorem vo(x:ByteArray)(w:World):Calls prog 309 #[.string x,.string ⟨#[47]⟩] w fun e w'=>e= .returned (.int .i64 (Lib.indexB x ⟨#[47]⟩))/\w'=w:=by
 have c:Calls prog 309 #[.string x,.string ⟨#[47]⟩] w fun e w'=>e= .returned (.int .i64 (Lib.indexByte x.data.toList 47))/\w'=w:=Any.stringslite_Index_one {pF with} x 47 w;rw[<-Lib.index_one]at c;exact c
theorem EN(x:ByteArray)(w:World):Calls prog 306 #[.string x,.string ⟨#[47]⟩] w fun e w'=>e= .returned (.int .i64 (Lib.countB x ⟨#[47]⟩))/\w'=w:=by
 have c:Calls prog 306 #[.string x,.string ⟨#[47]⟩] w fun e w'=>e= .returned (.int .i64 (Lib.countByte x.data.toList 47))/\w'=w:=Any.strings_Count_one {pF with} x 47 w;refine c.mono fun e w' ⟨he,hw⟩=>⟨?_,hw⟩;rw[he];show _=Ending.returned (Value.int .i64 ((Lib.count x.data.toList [47]:Nat):Int));rw[Lib.count_one];rfl
theorem zd(s:ByteArray)(w:World)(hs:s.size<4294967281):
  Calls prog 174 #[.string s,.string ⟨#[47]⟩] w fun e w'=>e= .returned (.slice (some ⟨w.heap.size,0,none⟩) (lvs s).length (lvs s).length)/\w'=w.alloc (.cells (sv (lvs s)).toArray 9):=by
 have hle:=Lib.countB_le ⟨#[47]⟩ (by decide) s.size s (ac _);have c:Calls prog 234 #[.string s,.string ⟨#[47]⟩,.int .i64 ((0:Nat):Int),.int .i64 (-1)] w _:=Any.strings_genSplit_core pF vl s ⟨#[47]⟩ 0 (-1) (Lib.countB s ⟨#[47]⟩+1) w hs (by decide) (ag _) (fun x c _=>EB x _) (EN s w) (by decide) (by decide) (by rw[if_pos (by decide)];omega);rw[Nat.add_sub_cancel]at c;have e2:Lib.cellsOf (Lib.splitB ⟨#[47]⟩ 0 (Lib.countB s ⟨#[47]⟩) s) (Lib.countB s ⟨#[47]⟩+1)=(sv (lvs s)).toArray:=by rw[<-n7 s];exact Lib.cellsOf_full _
 rw[e2]at c;have e3:(Lib.splitB ⟨#[47]⟩ 0 (Lib.countB s ⟨#[47]⟩) s).length=(lvs s).length:=rfl;rw[e3,<-n7 s]at c;clear hle e2 e3 hs;generalize lvs s=l at*;go_enter func174,ntmps174
 go_wp2_with fail
 refine c.mono ?_;rintro e w1 ⟨rfl,rfl⟩;go_wp2;go_ret;exact⟨rfl,rfl⟩
theorem vf(s:ByteArray)(w:World)(hs:s.size<4294967281):
  Calls prog 120 #[.string s] w fun e w'=>e= .returned (.slice (some ⟨w.heap.size,0,none⟩) (lvs s).length (lvs s).length)/\w'=w.alloc (.cells (sv (lvs s)).toArray 9):=by
 have c:=zd s w hs;generalize lvs s=l at*;go_enter func120,ntmps120
 go_wp2_with fail
 refine c.mono ?_;rintro e w1 ⟨rfl,rfl⟩;go_wp2;go_ret;exact⟨rfl,rfl⟩
theorem tS(x:ByteArray)(w:World):
  Calls prog 172 #[.string x] w fun e w'=>e= .returned (.bool (mi x))/\w=w':=by
 have HW:Hid (mi x=((x.toList==[43]) || (x.toList==[35]))):=aa rfl;go_enter func172,ntmps172;cases h1:(x.toList==[43])
 ·have HX:Hid (mi x=(x.toList==[35])):=aa (by rw[HW.o,h1,nB]);go_wp2;go_ret;exact⟨by rw[HX.o];rfl,rfl⟩
 ·have HX:Hid (mi x=true):=aa (by rw[HW.o,h1,Bool.true_or]);go_wp2;go_ret;exact⟨by rw[HX.o];rfl,rfl⟩
theorem oc{l:List ByteArray}{k:Nat}{x:ByteArray}(hx:l[k]? =some x)(h:j8 x (decide (k+1=l.length))=true)(ha:∀(j:Nat) (y:ByteArray),j<k->l[j]? =some y->j8 y (decide (j+1=l.length))=true):
  ∀(j:Nat) (y:ByteArray),j<k+1->l[j]? =some y->j8 y (decide (j+1=l.length))=true:=by
 intro j y hj hy;rcases dx.1 hj with h1| rfl
 ·exact ha j y h1 hy
 ·rw[hx]at hy;obtain rfl:=Option.some.inj hy;exact h
theorem Cu{l:List ByteArray}(ha:∀(j:Nat) (y:ByteArray),j<l.length->l[j]? =some y->j8 y (decide (j+1=l.length))=true):jk l=true:=
 Ct fun i x hx=>ha i x (cR.1 hx).1 hx
theorem Gd{w:World}{B n:Nat}{A:Option Addr}{l:List ByteArray}(h:Rd w B 1 A n (sv l)){i:Nat}(hi:i<n):∃b o x,A=some ⟨b,o,none⟩/\b<B/\l[i]? =some x/\w.cell? ⟨b,o+i,none⟩=some (.string x):=by
 obtain⟨b,o,u,e,hb,hu,hc⟩:=h.at1 hi;have hl:i<l.length:=by have:=h.len;rw[AW]at this;omega
 refine⟨b,o,l[i],e,hb,List.getElem?_eq_getElem hl,?_⟩;have:u= .string l[i]:=by simpa [sv,hl]using hu.symm
 rw[<-this];exact hc
theorem wW(A:Option Addr)(n c:Nat)(l:List ByteArray)(w:World)(hn:l.length=n)(h:Rd w w.heap.size 1 A n (sv l))(hsz:∀x∈l,x.size<=65535)(hn2:n<=4611686018427387904):
  Calls prog 119 #[.slice A n c] w fun e w'=>e= .returned (.bool (jk l))/\Below w.heap.size w w':=by
 have E1:=aa hn;have HL:=aa h;have HS:=aa hsz
 clear hn h hsz;go_enter func119,ntmps119;go_wp2
 go_loopw [8] (fun i wr=>∃k:Nat,k<=n/\i= .int .i64 k/\(∀(j:Nat) (y:ByteArray),j<k->l[j]? =some y->j8 y (decide (j+1=l.length))=true)/\Below w.heap.size w wr) (fun i _=>n- (intOf i).toNat)
 case atStart=>exact⟨0,by omega,rfl,fun j x hj=>by omega,aq _ _⟩
 case round=>
  obtain⟨k,hk,rfl,hall,hbel⟩:=hrel;have HA:=aa hall;have HB:=aa hbel;clear hall
  by_cases hlt:k<n
  ·obtain⟨b,o,x,rfl,hb,hx,hc⟩:=Gd (HL.o.below hbel) hlt;have HX:=aa hx;have HXS:=aa (HS.o x (iL hx));obtain⟨d,hd⟩:∃d,decide (k+1=l.length)=d:=⟨_,rfl⟩;have hlast:((k:Int)+1==(n:Int))=d:=by
    rw[<-hd,E1.o,eG,aK,cH];omega
   have HD:=aa hd;have b1:(0:Int)<=(k:Int):=by omega
   have b2:(k:Int)<(n:Int):=by omega
   have HV:Hid (j8 x d= !(((x.toList==[35])&& !d) || (!mi x&&mg x))):=aa rfl;clear hx hd hbel;cases h35:(x.toList==[35])
   ·have HV1:Hid (j8 x d= !(!mi x&&mg x)):=aa (by rw[HV.o,h35];rfl)
    go_wp2_with fail
    refine(tS x _).mono ?_;rintro e w1 ⟨rfl,rfl⟩;cases hw:mi x
    ·have HV2:Hid (j8 x d= !mg x):=aa (by rw[HV1.o,hw];rfl);clear hw
     go_wp2_with fail
     refine(kW x _ HXS.o).mono ?_;rintro e w2 ⟨rfl,hb2⟩;have HB2:=aa (HB.o.trans (hb2.mono HB.o.size));clear hb2
     cases ha:mg x
     ·have HV3:Hid (j8 x (decide (k+1=l.length))=true):=aa (by rw[HD.o,HV2.o,ha];rfl);clear ha;go_wp2
      go_roundw
      case rel=>exact⟨k+1,by omega,by go_num,oc HX.o HV3.o HA.o,HB2.o⟩
      case measure=>simp[intOf];omega
     ·have HV3:Hid (jk l=false):=aa (yA HX.o (by rw[HD.o,HV2.o,ha];rfl));clear ha;go_wp2;go_ret;exact⟨by rw[HV3.o];rfl,HB2.o⟩
    ·have HV3:Hid (j8 x (decide (k+1=l.length))=true):=aa (by rw[HD.o,HV1.o,hw];rfl);clear hw;go_wp2
     go_roundw
     case rel=>exact⟨k+1,by omega,by go_num,oc HX.o HV3.o HA.o,HB.o⟩
     case measure=>simp[intOf];omega
   ·cases d
    ·have HV3:Hid (jk l=false):=aa (yA HX.o (by rw[HD.o,HV.o,h35];rfl));go_wp2;go_ret;exact⟨by rw[HV3.o];rfl,HB.o⟩
    ·have HWX:Hid (mi x=true):=aa (by unfold mi;rw[h35,Bool.or_true]);have HV3:Hid (j8 x (decide (k+1=l.length))=true):=aa (by rw[HD.o,HV.o,HWX.o,Ra,ru];rfl)
     go_wp2_with fail
     refine(tS x _).mono ?_;rintro e w1 ⟨rfl,rfl⟩;rw[HWX.o];go_wp2
     go_roundw
     case rel=>exact⟨k+1,by omega,by go_num,oc HX.o HV3.o HA.o,HB.o⟩
     case measure=>simp[intOf];omega
  ·obtain rfl:k=n:=by omega
   have HV3:Hid (jk l=true):=aa (Cu (fun j y hj=>HA.o j y (by have:=E1.o;omega)));go_wp2;go_ret;exact⟨by rw[HV3.o];rfl,hbel⟩
theorem Ft(w:World)(l:List ByteArray):Rd (w.alloc (.cells (sv l).toArray 9)) (w.alloc (.cells (sv l).toArray 9)).heap.size 1 (some ⟨w.heap.size,0,none⟩) l.length (sv l):=by
 have h:=Rd.fresh w (sv l).toArray 9;simp only[ey]at h⊢
 simpa [AW]using h
theorem qB(s:ByteArray)(w:World)(hs:s.size<=4611686018427387904):
  Calls prog 76 #[.string s] w fun e w'=>e= .returned (.bool (gj s))/\Below w.heap.size w w':=by
 have HS:=aa hs;have HF:Hid (gj s=(jY s&&jk (lvs s))):=aa rfl;clear hs;go_enter func76,ntmps76
 go_wp2_with fail
 refine(rH s _ HS.o).mono ?_;rintro e w1 ⟨rfl,hb⟩;have HB:=aa hb;clear hb
 cases ht:jY s
 ·have HX:Hid (gj s=false):=aa (by rw[HF.o,ht];rfl);clear ht;go_wp2;go_ret;exact⟨by rw[HX.o];rfl,HB.o⟩
 have HX:Hid (gj s=jk (lvs s)):=aa (by rw[HF.o,ht,aL]);have HV:Hid (s.size<=65535):=aa (gL (by unfold jY at ht;rw[eh]at ht;exact ht.2));clear ht HF;have HLS:Hid (∀x∈lvs s,x.size<=65535):=aa fun x hx=>aC (Cl s x hx) HV.o;have HLL:Hid ((lvs s).length<=4611686018427387904):=aa (by have:=Eo s;have:=HV.o;omega)
 go_wp2_with fail
 refine(vf s _ (by have:=HV.o;omega)).mono ?_;rintro e w2 ⟨rfl,rfl⟩;generalize lvs s=l at*;have HR:=aa (Ft w1 l);have HB2:=aa (HB.o.alloc HB.o.size (.cells (sv l).toArray 9));generalize w1.alloc (.cells (sv l).toArray 9)=W at*;generalize w1.heap.size=g at*
 go_wp2_with fail
 refine(wW _ _ _ l _ rfl HR.o HLS.o HLL.o).mono ?_;rintro e w3 ⟨rfl,hb⟩;have HB3:=aa (HB2.o.trans (hb.mono HB2.o.size));clear hb
 go_wp2;go_ret;exact⟨by rw[HX.o];rfl,HB3.o⟩
theorem sg(s:ByteArray):gV s=(decide (7<=s.size)&&((s.extract 0 7).toList==[36,115,104,97,114,101,47])):=by
 rw[Gc,ix];unfold gV
 by_cases h:7<=s.size
 ·rw[au h,aL,eG,List.isPrefixOf_iff_prefix,aK,List.prefix_iff_eq_take];exact eq_comm
 ·rw[ah h,bj,Bool.eq_false_iff];intro hp;have:=(List.isPrefixOf_iff_prefix.1 hp).length_le;rw[aN]at this;simp[tt]at this;omega
theorem rl(s:ByteArray)(w:World)(hs:s.size<=4611686018427387904):
  Calls prog 308 #[.string s,.string ⟨#[36,115,104,97,114,101,47]⟩] w fun e w'=>e= .returned (.bool (gV s))/\w=w':=by
 by_cases h:7<=s.size
 ·have h':(7:Int)<=(s.size:Int):=by omega
  have HF:Hid (gV s=((s.extract 0 7).toList==[36,115,104,97,114,101,47])):=aa (by rw[sg,au h,aL]);clear h;go_enter func308,ntmps308;go_wp2;go_ret;exact⟨by rw[HF.o];rfl,rfl⟩
 ·have h':¬(7:Int)<=(s.size:Int):=by omega
  have HF:Hid (gV s=false):=aa (by rw[sg,ah h,bj]);clear h;go_enter func308,ntmps308;go_wp2;go_ret;exact⟨by rw[HF.o];rfl,rfl⟩
theorem xh{s:ByteArray}(h:gV s=true):7<=s.size:=(vx h).1
theorem qF(s:ByteArray)(w:World)(hs:s.size<=4611686018427387904):
  Calls prog 235 #[.string s,.string ⟨#[36,115,104,97,114,101,47]⟩] w fun e w'=>e= .returned (.tuple #[.string (kY s),.bool (gV s)])/\w=w':=by
 have HS:=aa hs;clear hs
 go_enter func235,ntmps235
 go_wp2_with fail
 refine(rl s _ HS.o).mono ?_;rintro e w1 ⟨rfl,rfl⟩;cases hf:gV s
 ·have HFB:=aa hf;have HX:Hid (kY s=s):=aa (by unfold kY;rw[hf];rfl);clear hf;go_wp2;go_ret2;exact⟨by rw[HX.o,HFB.o];rfl,rfl⟩
 ·have HFB:=aa hf;have HX:Hid (kY s=s.extract 7 s.size):=aa (by unfold kY;rw[hf];rfl);have h7:(7:Int)<=(s.size:Int):=by have:=xh hf;omega
  clear hf;go_wp2;go_ret2;exact⟨by rw[HX.o,HFB.o];rfl,rfl⟩
theorem rq(s:ByteArray)(w:World)(hs:s.size<=4611686018427387904):
  Calls prog 175 #[.string s,.string ⟨#[36,115,104,97,114,101,47]⟩] w fun e w'=>e= .returned (.tuple #[.string (kY s),.bool (gV s)])/\w=w':=by
 have HS:=aa hs;clear hs
 go_enter func175,ntmps175
 go_wp2_with fail
 refine(qF s _ HS.o).mono ?_;rintro e w1 ⟨rfl,rfl⟩;go_wp2;go_ret2;exact⟨rfl,rfl⟩
theorem De(s:ByteArray)(w:World)(hs:s.size<=4611686018427387904):
  Calls prog 236 #[.string s,.string ⟨#[47]⟩] w fun e w'=>e= .returned (.tuple #[.string (ky s).1,.string (ky s).2.1,.bool (ky s).2.2])/\Below w.heap.size w w':=by
 rcases Lib.indexB_cases s ⟨#[47]⟩with hix| ⟨i,hix,hroom⟩
 ·have HX:Hid (ky s=(s,⟨#[]⟩,false)):=aa (by unfold ky;rw[if_pos hix]);have HI:=aa hix;clear hix;go_enter func236,ntmps236
  go_wp2_with fail
  refine(vo s _).mono ?_;rintro e w1 ⟨rfl,rfl⟩;rw[HI.o];go_wp2;go_ret3;exact⟨by rw[HX.o];rfl,aq _ _⟩
 ·have HX:Hid (ky s=(s.extract 0 i,s.extract (i+1) s.size,true)):=aa (by
   unfold ky;rw[ae (by omega),hix];rfl)
  have HI:=aa hix;have hz:(⟨#[47]⟩:ByteArray).size=1:=rfl;rw[hz]at hroom;have c1:(0:Int)<=(i:Int):=by omega
  have c2:(i:Int)<=(s.size:Int):=by omega
  have c3:(0:Int)<=(i:Int)+1:=by omega
  have c4:(i:Int)+1<=(s.size:Int):=by omega
  clear hix hz hroom;go_enter func236,ntmps236
  go_wp2_with fail
  refine(vo s _).mono ?_;rintro e w1 ⟨rfl,rfl⟩;rw[HI.o];go_wp2
  go_region
  go_wp2;go_ret3;exact⟨by rw[HX.o];rfl,aV (aq _ _) _⟩
theorem EL(s:ByteArray)(w:World)(hs:s.size<=4611686018427387904):
  Calls prog 176 #[.string s,.string ⟨#[47]⟩] w fun e w'=>e= .returned (.tuple #[.string (ky s).1,.string (ky s).2.1,.bool (ky s).2.2])/\Below w.heap.size w w':=by
 have HS:=aa hs;clear hs
 go_enter func176,ntmps176
 go_wp2_with fail
 refine(De s _ HS.o).mono ?_;rintro e w1 ⟨rfl,hb⟩;have HB:=aa hb;clear hb
 go_wp2;go_ret3;exact⟨rfl,HB.o⟩
def AK(s:ByteArray)(w:World)(e:Ending)(w':World):Prop:=(∃a b:ByteArray,e= .returned (.tuple #[.string a,.string b,.bool (fy s)]))/\Below w.heap.size w w'
theorem wo(s:ByteArray)(w:World)(hs:s.size<=4611686018427387904):
  Calls prog 122 #[.string s] w (AK s w):=by
 have HS:=aa hs;have HZ:=aa (Bd s);have HC:=aa (Dc (kY s));have HE:Hid (fy s=(gV s&&((ky (kY s)).2.2&&(bN s&&(fp (ky (kY s)).1&&gj (ky (kY s)).2.1))))):=aa rfl;clear hs;go_enter func122,ntmps122
 go_wp2_with fail
 refine(rq s _ HS.o).mono ?_;rintro e w1 ⟨rfl,rfl⟩
 go_wp2_with fail
 refine(EL (kY s) _ (by have:=HS.o;have:=HZ.o;omega)).mono ?_;rintro e w1 ⟨rfl,hb⟩;have HB:=aa hb;clear hb
 obtain⟨R,hR⟩:∃R,ky (kY s)=R:=⟨_,rfl⟩;rw[hR]at HC HE⊢;clear hR;generalize kY s=r at*;obtain⟨x,y,z⟩:=R;simp only at HC HE⊢;cases hf:gV s
 ·have HX:Hid (fy s=false):=aa (by rw[HE.o,hf];rfl);clear hf;go_wp2;go_ret3;exact⟨⟨_,_,by rw[HX.o];rfl⟩,HB.o⟩
 have HE1:Hid (fy s=(z&&(bN s&&(fp x&&gj y)))):=aa (by rw[HE.o,hf,aL]);clear hf;cases z
 ·have HX:Hid (fy s=false):=aa (by rw[HE1.o];rfl);go_wp2;go_ret3;exact⟨⟨_,_,by rw[HX.o];rfl⟩,HB.o⟩
 go_wp2_with fail
 refine(fk s _ HS.o).mono ?_;rintro e w2 ⟨rfl,hb⟩;have HB2:=aa (HB.o.trans (hb.mono HB.o.size));clear hb
 cases hv:bN s
 ·have HX:Hid (fy s=false):=aa (by rw[HE1.o,hv];rfl);clear hv;go_wp2;go_ret3;exact⟨⟨_,_,by rw[HX.o];rfl⟩,HB2.o⟩
 have HE2:Hid (fy s=(fp x&&gj y)):=aa (by rw[HE1.o,hv,aL,aL]);clear hv
 go_wp2_with fail
 refine(lw x _ (by have:=HS.o;have:=HZ.o;have:=HC.o.1;omega)).mono ?_;rintro e w3 ⟨rfl,hb⟩;have HB3:=aa (HB2.o.trans (hb.mono HB2.o.size));clear hb
 cases hn:fp x
 ·have HX:Hid (fy s=false):=aa (by rw[HE2.o,hn];rfl);clear hn;go_wp2;go_ret3;exact⟨⟨_,_,by rw[HX.o];rfl⟩,HB3.o⟩
 have HE3:Hid (fy s=gj y):=aa (by rw[HE2.o,hn,aL]);clear hn
 go_wp2_with fail
 refine(qB y _ (by have:=HS.o;have:=HZ.o;have:=HC.o.2;omega)).mono ?_;rintro e w4 ⟨rfl,hb⟩;have HB4:=aa (HB3.o.trans (hb.mono HB3.o.size));clear hb
 cases hn:gj y
 ·have HX:Hid (fy s=false):=aa (by rw[HE3.o,hn]);clear hn;go_wp2;go_ret3;exact⟨⟨_,_,by rw[HX.o];rfl⟩,HB4.o⟩
 have HX:Hid (fy s=true):=aa (by rw[HE3.o,hn]);clear hn;go_wp2;go_ret3;exact⟨⟨_,_,by rw[HX.o];rfl⟩,HB4.o⟩
end Go.Proofs.YtbdgkkmbnahgiaaGreatDoor
namespace Go.Proofs.YtbdgkkmbnahgiaaGreatDoor
open Go.RowKit Go.Proofs.Tryz
section
attribute [local go_sem ↓] bD bF bH bI bu
attribute [local go_sem] bc aD bh bg bK bJ bd aY be aO ax cI dC dB dt dj di dA dr dp dn bW co bO bZ bX cz cy cw cu ct cC cn bS bP bR
attribute [local go_sem ↓high] bu sD sE
attribute [local go_sem ↓] wh
attribute [local go_sem] Cv BD mX uw pU sO ta yp s9 yo sZ yn sV ym sU yl sT yk sS yj sR yi sQ yh sP yg pC uI pB uH pA uG py uF pu uE pr uC pq uB pp uA po uz pm uy pj ux sY pX sX pW sW pV
theorem oI(v k:Int)(w:World):Calls prog 59 #[.int .i64 v,.int .i64 k] w fun e w'=>e= .returned (.bool (ir v k))/\w=w':=by
 go_enter func59,ntmps59;go_wp2
 all_goals
  go_ret;refine⟨eT ?_,rfl⟩;unfold ir
  by_cases h4:v=4<;>by_cases h5:v=5<;>simp_all<;>omega
theorem nK(k:Int)(w:World):Calls prog 72 #[.int .i64 k] w fun e w'=>e= .returned (.bool (jm k))/\w=w':=by
 go_enter func72,ntmps72;go_wp2
 all_goals
  go_ret;refine⟨eT ?_,rfl⟩;unfold jm
  by_cases h4:k=8<;>by_cases h5:k=10<;>simp_all
theorem zi(v k:Int)(w:World):Calls prog 73 #[.int .i64 v,.int .i64 k] w fun e w'=>e= .returned (.bool (pP v k))/\w=w':=by
 go_enter func73,ntmps73;go_wp2
 all_goals
  go_ret;refine⟨eT ?_,rfl⟩;unfold pP
  by_cases h4:k=11<;>by_cases h5:v=4<;>simp_all
theorem nJ(n:Int)(w:World):Calls prog 121 #[.int .i64 n] w fun e w'=>e= .returned (.bool (jZ n))/\w=w':=by
 go_enter func121,ntmps121;go_wp2
 all_goals
  go_ret;refine⟨eT ?_,rfl⟩;unfold jZ
  by_cases h4:0<=n<;>by_cases h5:n<3<;>simp_all<;>omega
theorem Dx(v k c:Int)(w:World):Calls prog 78 #[.int .i64 v,.int .i64 k,.int .i64 c] w fun e w'=>e= .returned (.bool (xF v k c))/\Below w.heap.size w w':=by
 by_cases h4:v=4
 ·have e4:(v==4)=true:=aK.2 h4;have HX:Hid (xF v k c=tq c):=aa (if_pos h4);clear h4;go_enter func78,ntmps78
  go_wp2_with fail
  refine(Af c _).mono ?_;rintro e w1 ⟨rfl,hb⟩;have HB:=aa hb;clear hb
  go_wp2;go_ret;exact⟨by rw[HX.o];rfl,by first| exact HB.o| exact HB.o▸aq _ _⟩
 ·have e4:(v==4)=false:=ar.2 h4;have HX:Hid (xF v k c=may k c):=aa (ae h4);clear h4;go_enter func78,ntmps78
  go_wp2_with fail
  refine(m7 k c _).mono ?_;rintro e w1 ⟨rfl,hb⟩;have HB:=aa hb;clear hb
  go_wp2;go_ret;exact⟨by rw[HX.o];rfl,by first| exact HB.o| exact HB.o▸aq _ _⟩
def sbH(v:Int)(p:Pk)(h:Hs):Hs:=
 if jm p.kind=true then {hs0 with props:=h.props,filters:=h.filters}else if pP v p.kind=true then {hs0 with props:=h.props}else {hs0 with props:=h.props,codes:=h.codes}
theorem DN(v:Int){p:Pk}(x:gz p):gz (sbQ v p):=by
 unfold sbQ;split
 ·exact⟨ag _,ag _,x.2.2.1,x.2.2.2⟩
 ·split
  ·exact⟨ag _,ag _,ag _,x.2.2.2⟩
  ·exact⟨ag _,x.2.1,ag _,x.2.2.2⟩
theorem Fp(v:Int){w:World}{B:Nat}{p:Pk}{h:Hs}(x:PkIn w B p h):PkIn w B (sbQ v p) (sbH v p h):=by
 unfold sbQ sbH;split
 ·exact⟨Rd.nil _ _ _ _,Rd.nil _ _ _ _,x.filters,x.props,ag _,ag _,x.caps.2.2.1,x.caps.2.2.2⟩
 ·split
  ·exact⟨Rd.nil _ _ _ _,Rd.nil _ _ _ _,Rd.nil _ _ _ _,x.props,ag _,ag _,ag _,x.caps.2.2.2⟩
  ·exact⟨Rd.nil _ _ _ _,x.codes,Rd.nil _ _ _ _,x.props,ag _,x.caps.2.1,ag _,x.caps.2.2.2⟩
theorem wu(k i:Int)(l:List Pr)(A:Option Addr)(n:Nat)(w:World):(qP #[(0,.int .i64 k),(4,.int .i64 i),(20,.slice A l.length n)]).run prog w= .ok (pkV {pk0 with kind:=k,id:=i,props:=l} {hs0 with props:=⟨A,n⟩}) w:=by kernel_rfl
theorem sK(v:Int)(p:Pk)(h:Hs)(Q:Pk)(H:Hs)(x:World)(hq:sbQ v p=Q)(hh:sbH v p h=H)(hi:PkIn x x.heap.size p h)(hn:gz p):
  Calls prog 117 #[pkV p h,pkV Q H] x fun e y=>e= .returned (.bool (decide (p=sbQ v p)))/\Below x.heap.size x y:=by
 subst hq hh;exact jE p (sbQ v p) h (sbH v p h) x hi (Fp v hi) hn (DN v hn)
theorem sJ(v:Int)(p:Pk)(h:Hs)(w:World)(ip:PkIn w w.heap.size p h)(ok:PkOk p):
  Calls prog 74 #[.int .i64 v,pkV p h] w fun e w'=>e= .returned (.bool (eH v p))/\Below w.heap.size w w':=by
 have OK:=aa ok;have IP:=aa ip;have HE:Hid (eH v p=(!(decide (p.id<1) || (decide (65535<p.id) || (decide (v=4)&&decide (0<p.props.length))))&&(lj v p&&decide (p=sbQ v p)))):=aa rfl;have HH:Hid (lj v p=if jm p.kind=true then decide (0<p.filters.length)else if pP v p.kind=true then true else decide (0<p.codes.length)):=aa rfl;have HB0:=aa ((aq w.heap.size w).alloc (ac _) (.cells (pkC p h) PkT));have B1:=Bk.fresh w PkT (pkC p h);have k0:=(B1.cell 0).trans (cI _ _);have k4:=(B1.cell 4).trans (dj _ _);have k18:=(B1.cell 22).trans (bS _ _);have k19:=(B1.cell 23).trans (bP _ _);have k20:=(B1.cell 24).trans (bR _ _)
 obtain⟨W,hW,hst⟩:=mF w p {pk0 with kind:=p.kind,id:=p.id,props:=p.props} h {hs0 with props:=⟨h.props.a,h.props.c⟩};have HW:=aa hW;have hlt:=hW.lt;have j0:=fun cs=>(hW.bk_pw cs).cell;have hl0:∀cs,(kZ (.pointer (some ⟨w.heap.size,0,none⟩))).run prog (pw W (w.heap.size+1) cs)= .ok (pkV p h) (pw W (w.heap.size+1) cs):=fun cs=>cf (hW.bk_pw cs);have hbd:=wu p.kind p.id p.props h.props.a h.props.c;have HQI:Hid (∀x,Below w.heap.size w x->PkIn x x.heap.size p h):=aa fun x hx=>(IP.o.below hx).wider hx.size;clear ip ok hW B1;go_enter func74,ntmps74
 by_cases h1:p.id<1
 ·have HX:Hid (eH v p=false):=aa (by rw[HE.o,au h1];rfl);go_wp2;go_ret;exact⟨by rw[HX.o];rfl,HB0.o⟩
 by_cases h2:65535<p.id
 ·have HX:Hid (eH v p=false):=aa (by rw[HE.o,au h2,Bool.true_or,Bool.or_true];rfl);go_wp2;go_ret;exact⟨by rw[HX.o];rfl,HB0.o⟩
 have HE1:=HE.o;rw[ah h1,ah h2,nB,nB]at HE1
 replace HE1:=aa HE1
 have key:∀(_:decide (v=4)=false\/decide (0<p.props.length)=false),eH v p=(lj v p&&decide (p=sbQ v p)):=by
  intro hh;rw[HE1.o];rcases hh with hh| hh
  ·rw[hh,bj,Bool.not_false,aL]
  ·rw[hh,ru,Bool.not_false,aL]
 have KEY:=aa key;clear key HE
 by_cases h4:v=4/\0<p.props.length
 ·have HX:Hid (eH v p=false):=aa (by rw[HE1.o,au h4.1,au h4.2];rfl);have e4:(v==4)=true:=aK.2 h4.1;have d4:(0:Int)<(p.props.length:Int):=by have:=h4.2;omega
  clear h4;go_wp2;go_ret;exact⟨by rw[HX.o];rfl,HB0.o⟩
 have HE2:Hid (eH v p=(lj v p&&decide (p=sbQ v p))):=aa (KEY.o (by
  by_cases a:v=4
  ·exact .inr (ah fun b=>h4 ⟨a,b⟩)
  ·exact .inl (ah a)))
 have tail:∀(b4:Bool) (_:(v==4)=b4) (_:b4=true->(p.props.length:Int)<=0),True:=fun _ _ _=>trivial;clear tail KEY HE1;have main:(v==4)=false\/((v==4)=true/\¬(0:Int)<(p.props.length:Int)):=by
  by_cases a:v=4
  ·exact .inr ⟨aK.2 a,fun b=>h4 ⟨a,by omega⟩⟩
  ·exact .inl (ar.2 a)
 clear h4;have HAS:=aa (nK p.kind);rcases main with e4| ⟨e4,d4⟩
 all_goals
  go_wp2_with fail
  refine(nK p.kind _).mono ?_;rintro e w1 ⟨rfl,hw1⟩;subst hw1;cases ha:jm p.kind;rotate_left
  ·have HHX:Hid (lj v p=decide (0<p.filters.length)):=aa (by rw[HH.o,if_pos ha]);have HQ:Hid (sbQ v p= {pk0 with kind:=p.kind,id:=p.id,props:=p.props,filters:=p.filters}):=aa (by unfold sbQ;rw[if_pos ha]);have HHS:Hid (sbH v p h= {hs0 with props:=h.props,filters:=h.filters}):=aa (by unfold sbH;rw[if_pos ha]);clear ha
   by_cases hn:0<p.filters.length
   ·have d5:(0:Int)<(p.filters.length:Int):=by omega
    have HX:Hid (eH v p=decide (p=sbQ v p)):=aa (by rw[HE2.o,HHX.o,au hn,aL]);clear hn
    go_wp2_with fail
    refine(sK v p h _ _ _ (HQ.o.trans rfl) (HHS.o.trans rfl) (HQI.o _ (HW.o.kept _)) OK.o.len).mono ?_;rintro e w1 ⟨rfl,hb⟩;have HB:=aa ((HW.o.kept _).trans (hb.mono (HW.o.kept _).size));clear hb
    go_wp2;go_ret;exact⟨by rw[HX.o];rfl,HB.o⟩
   ·have d5:¬(0:Int)<(p.filters.length:Int):=by omega
    have HX:Hid (eH v p=false):=aa (by rw[HE2.o,HHX.o,ah hn,bj]);clear hn;go_wp2;go_ret;exact⟨by rw[HX.o];rfl,HW.o.kept _⟩
  ·go_wp2_with fail
   refine(zi v p.kind _).mono ?_;rintro e w1 ⟨rfl,hw1⟩;subst hw1;cases hsil:pP v p.kind;rotate_left
   ·have HHX:Hid (lj v p=true):=aa (by rw[HH.o,ae (by rw[ha];decide),if_pos hsil]);have HQ:Hid (sbQ v p= {pk0 with kind:=p.kind,id:=p.id,props:=p.props}):=aa (by unfold sbQ;rw[ae (by rw[ha];decide),if_pos hsil]);have HHS:Hid (sbH v p h= {hs0 with props:=h.props}):=aa (by unfold sbH;rw[ae (by rw[ha];decide),if_pos hsil]);have HX:Hid (eH v p=decide (p=sbQ v p)):=aa (by rw[HE2.o,HHX.o,aL]);clear ha hsil
    go_wp2_with fail
    refine(sK v p h _ _ _ (HQ.o.trans rfl) (HHS.o.trans rfl) (HQI.o _ (HW.o.kept _)) OK.o.len).mono ?_;rintro e w1 ⟨rfl,hb⟩;have HB:=aa ((HW.o.kept _).trans (hb.mono (HW.o.kept _).size));clear hb
    go_wp2;go_ret;exact⟨by rw[HX.o];rfl,HB.o⟩
   ·have HHX:Hid (lj v p=decide (0<p.codes.length)):=aa (by rw[HH.o,ae (by rw[ha];decide),ae (by rw[hsil];decide)]);have HQ:Hid (sbQ v p= {pk0 with kind:=p.kind,id:=p.id,props:=p.props,codes:=p.codes}):=aa (by unfold sbQ;rw[ae (by rw[ha];decide),ae (by rw[hsil];decide)]);have HHS:Hid (sbH v p h= {hs0 with props:=h.props,codes:=h.codes}):=aa (by unfold sbH;rw[ae (by rw[ha];decide),ae (by rw[hsil];decide)]);clear ha hsil
    by_cases hn:0<p.codes.length
    ·have d5:(0:Int)<(p.codes.length:Int):=by omega
     have HX:Hid (eH v p=decide (p=sbQ v p)):=aa (by rw[HE2.o,HHX.o,au hn,aL]);clear hn
     go_wp2_with fail
     refine(sK v p h _ _ _ (HQ.o.trans rfl) (HHS.o.trans rfl) (HQI.o _ (HW.o.kept _)) OK.o.len).mono ?_;rintro e w1 ⟨rfl,hb⟩;have HB:=aa ((HW.o.kept _).trans (hb.mono (HW.o.kept _).size));clear hb
     go_wp2;go_ret;exact⟨by rw[HX.o];rfl,HB.o⟩
    ·have d5:¬(0:Int)<(p.codes.length:Int):=by omega
     have HX:Hid (eH v p=false):=aa (by rw[HE2.o,HHX.o,ah hn,bj]);clear hn;go_wp2;go_ret;exact⟨by rw[HX.o];rfl,HW.o.kept _⟩
theorem BT(v k:Int)(f:Fi)(w:World)(hs:f.topic.size<=4611686018427387904):
  Calls prog 77 #[.int .i64 v,.int .i64 k,.agg #[.string f.topic,.int .i64 f.qos,.bool f.noLocal,.bool f.asPub,.int .i64 f.handling]] w fun e w'=>e= .returned (.bool (nT v k f))/\Below w.heap.size w w':=by
 have HS:=aa hs;have HB0:=aa ((aq w.heap.size w).alloc (ac _) (.cells #[.string f.topic,.int .i64 f.qos,.bool f.noLocal,.bool f.asPub,.int .i64 f.handling] 32));have HK0:=aa (Bk.fresh w 32 #[.string f.topic,.int .i64 f.qos,.bool f.noLocal,.bool f.asPub,.int .i64 f.handling]);have HE:Hid (nT v k f=if k=10 then l9 f&&decide (f.qos=0)else if v=4 then l9 f&&jZ f.qos else jZ f.qos&&(jZ f.handling&& !(fy f.topic&&f.noLocal))):=aa rfl;have hgt:=kP;have hne:=fun W=>mJ f ⟨f.topic,f.qos,false,false,0⟩ W;have HP:Hid (l9 f=decide (f=⟨f.topic,f.qos,false,false,0⟩)):=aa rfl;rw[<-HP.o]at hne;clear HP hs;generalize l9 f=pl at*;go_enter func77,ntmps77
 by_cases hk:k=10
 ·have ek:(k==10)=true:=aK.2 hk;have HE1:Hid (nT v k f=(pl&&(f.qos==0))):=aa (by rw[HE.o,if_pos hk];rfl);clear hk;cases pl
  ·go_wp2;go_ret;exact⟨by rw[HE1.o];rfl,HB0.o⟩
  ·go_wp2;go_ret;exact⟨by rw[HE1.o];rfl,HB0.o⟩
 have ek:(k==10)=false:=ar.2 hk
 by_cases h4:v=4
 ·have e4:(v==4)=true:=aK.2 h4;have HE1:Hid (nT v k f=(pl&&jZ f.qos)):=aa (by rw[HE.o,ae hk,if_pos h4]);clear hk h4;cases pl
  ·go_wp2;go_ret;exact⟨by rw[HE1.o];rfl,HB0.o⟩
  ·go_wp2_with fail
   refine(nJ f.qos _).mono ?_;rintro e w1 ⟨rfl,hw1⟩;subst hw1;go_wp2;go_ret;exact⟨by rw[HE1.o];rfl,HB0.o⟩
 have e4:(v==4)=false:=ar.2 h4;have HE1:Hid (nT v k f=(jZ f.qos&&(jZ f.handling&& !(fy f.topic&&f.noLocal)))):=aa (by rw[HE.o,ae hk,ae h4]);clear hk h4 HE
 go_wp2_with fail
 refine(wo f.topic _ HS.o).mono ?_;rintro e w1 ⟨⟨a,b,rfl⟩,hb⟩;have HB1:=aa (HB0.o.trans (hb.mono HB0.o.size));have HK1:=aa (HK0.o.below hb HK0.o.lt);clear hb;have c1:=HK1.o.cell 1;have c2:=HK1.o.cell 2;have c4:=HK1.o.cell 4
 simp only[ay,aE,aB]at c1 c2 c4;generalize fy f.topic=sh at*
 go_wp2_with fail
 refine(nJ f.qos _).mono ?_;rintro e w2 ⟨rfl,hw2⟩;subst hw2;cases hq:jZ f.qos
 ·have HX:Hid (nT v k f=false):=aa (by rw[HE1.o,hq];rfl);clear hq;go_wp2;go_ret;exact⟨by rw[HX.o];rfl,HB1.o⟩
 have HE2:Hid (nT v k f=(jZ f.handling&& !(sh&&f.noLocal))):=aa (by rw[HE1.o,hq,aL]);clear hq
 go_wp2_with fail
 refine(nJ f.handling _).mono ?_;rintro e w2 ⟨rfl,hw2⟩;subst hw2;cases hq:jZ f.handling
 ·have HX:Hid (nT v k f=false):=aa (by rw[HE2.o,hq];rfl);clear hq;go_wp2;go_ret;exact⟨by rw[HX.o];rfl,HB1.o⟩
 have HE3:Hid (nT v k f= !(sh&&f.noLocal)):=aa (by rw[HE2.o,hq,aL]);clear hq;cases sh
 ·go_wp2;go_ret;exact⟨by rw[HE3.o];rfl,HB1.o⟩
 ·go_wp2;go_ret;exact⟨by rw[HE3.o];rfl,HB1.o⟩
end
section
attribute [local go_sem ↓] bD bF bH bI bu
attribute [local go_sem] bc aD bh bg bK bJ bd aY be aO ax cI dC dB dt dj di dA dr dp dn bW co bO bZ bX cz cy cw cu ct cC cn bS bP bR
theorem FL{v k:Int}{l:List Fi}{i:Nat}(hi:i<l.length):fiE v k (l.drop i)=if gj l[i].topic=false then 10 else if nT v k l[i]=false then 2 else fiE v k (l.drop (i+1)):=by
 rw[bQ hi];rfl
theorem F8{v k:Int}{l:List Int}{i:Nat}(hi:i<l.length):cdE v k (l.drop i)=if xF v k l[i]=false then 2 else cdE v k (l.drop (i+1)):=by
 rw[bQ hi];rfl
theorem lg(v:Int)(p:Pk)(h:Hs)(w:World)(ip:PkIn w w.heap.size p h)(ok:PkOk p):
  Calls prog 17 #[.int .i64 v,pkV p h] w fun e w'=>e= .returned (.int .i64 (sbE v p))/\Below w.heap.size w w':=by
 have OK:=aa ok;have S0:=aa ((St.start w).push ip);have HE:Hid (sbE v p=if xY v p=false then 2 else if(aM p.kind p.props).2≠0 then(aM p.kind p.props).2
  else if fiE v p.kind p.filters≠0 then fiE v p.kind p.filters else cdE v p.kind p.codes):=aa rfl
 have HA:Hid (xY v p=(ir v p.kind&&eH v p)):=aa rfl;have k0:=S0.o.cell 0 rfl;have l0:=S0.o.ld 0 rfl;clear ip ok;go_enter func17,ntmps17
 go_wp2_with fail
 refine(oI v p.kind _).mono ?_;rintro e w1 ⟨rfl,hw1⟩;subst hw1;cases hk:ir v p.kind
 ·have HX:Hid (sbE v p=2):=aa (by rw[HE.o,if_pos (by rw[HA.o,hk];rfl)]);clear hk;go_wp2;go_ret;exact⟨by rw[HX.o];rfl,S0.o.kept⟩
 have HA1:Hid (xY v p=eH v p):=aa (by rw[HA.o,hk,aL]);clear hk HA
 go_wp2_with fail
 refine(sJ v p h _ (S0.o.into 0 rfl) OK.o).mono ?_;rintro e w1 ⟨rfl,hb⟩;have S1:=aa (S0.o.below hb);clear hb k0 l0
 have k0:=S1.o.cell 0 rfl;cases hf:eH v p
 ·have HX:Hid (sbE v p=2):=aa (by rw[HE.o,if_pos (by rw[HA1.o,hf])]);clear hf;go_wp2;go_ret;exact⟨by rw[HX.o];rfl,S1.o.kept⟩
 have HE1:Hid (sbE v p=if(aM p.kind p.props).2≠0 then(aM p.kind p.props).2 else if fiE v p.kind p.filters≠0 then fiE v p.kind p.filters else cdE v p.kind p.codes):=aa (by
  rw[HE.o,ae (by rw[HA1.o,hf];decide)])
 clear hf HE HA1
 go_wp2_with fail
 refine(gu p.kind p.props _ rfl OK.o.props h.props.a h.props.c _ (S1.o.into 0 rfl).props OK.o.len.2.2.2).mono ?_;rintro e w2 ⟨rfl,hb⟩;have S2:=aa (S1.o.below hb);clear hb k0
 have k0:=S2.o.cell 0 rfl;obtain⟨x,hx⟩:∃x,(aM p.kind p.props).2=x:=⟨_,rfl⟩;rw[hx]at HE1⊢;clear hx
 by_cases hx:x=0
 rotate_left
 ·have HX:Hid (sbE v p=x):=aa (by rw[HE1.o,if_pos hx]);have e0:(x !=0)=true:=aA.2 hx;clear hx;go_wp2;go_ret;exact⟨by rw[HX.o];rfl,S2.o.kept⟩
 have HE2:Hid (sbE v p=if fiE v p.kind p.filters≠0 then fiE v p.kind p.filters else cdE v p.kind p.codes):=aa (by rw[HE1.o,ae (fun y=>y hx)]);have e0:(x !=0)=false:=by rw[hx];rfl
 have HFL:=aa OK.o.len.2.2.1;have HCL:=aa OK.o.len.2.1;clear hx HE1;obtain⟨n,hn⟩:∃n,p.filters.length=n:=⟨_,rfl⟩;obtain⟨m,hm⟩:∃m,p.codes.length=m:=⟨_,rfl⟩;have k23:=k0 23;have k22:=k0 22
 rw[bP,hn]at k23;rw[bS,hm]at k22;have kk:=(k0 0).trans (cI _ _);have HN:=aa hn;have HM:=aa hm
 have hn2:n<=4611686018427387904:=by have:=HFL.o;omega
 have hm2:m<=4611686018427387904:=by have:=HCL.o;omega
 clear hn hm k0;go_wp2
 go_loopw [32] (fun i wr=>∃k:Nat,k<=n/\i= .int .i64 k/\fiE v p.kind p.filters=fiE v p.kind (p.filters.drop k)/\Below w2.heap.size w2 wr) (fun i _=>n- (intOf i).toNat)
 case atStart=>exact⟨0,by omega,rfl,by rw[cS],aq _ _⟩
 case round=>
  obtain⟨k,hk,rfl,hfi,hbel⟩:=hrel;have S3:=aa (S2.o.below hbel);have HF:=aa hfi;have HBL:=aa hbel
  clear hfi kk k22 k23;have kk:=(S3.o.cell 0 rfl 0).trans (cI _ _);have k22:=S3.o.cell 0 rfl 22;rw[bS,HM.o]at k22
  by_cases hlt:k<n
  ·have hp:k<p.filters.length:=by rw[HN.o];exact hlt
   obtain⟨b,o,hA,hb,c0,c1,c2,c3,c4⟩:=((S3.o.into 0 rfl).filters).atF hp;have hts:=OK.o.topics p.filters[k] (iY hp);have HAT:=aa (HF.o.trans (FL (v:=v) (k:=p.kind) hp));generalize p.filters[k]=f at*;have HTS:=aa hts;have b1:(0:Int)<=(k:Int):=by omega
   have b2:(k:Int)<(n:Int):=by omega
   clear hp hts;have S4:=aa (S3.o.alloc (.cells #[.string f.topic,.int .i64 f.qos,.bool f.noLocal,.bool f.asPub,.int .i64 f.handling] 32));have HB4:=aa (HBL.o.alloc HBL.o.size (.cells #[.string f.topic,.int .i64 f.qos,.bool f.noLocal,.bool f.asPub,.int .i64 f.handling] 32));have K4:=aa (Bk.fresh wr 32 #[.string f.topic,.int .i64 f.qos,.bool f.noLocal,.bool f.asPub,.int .i64 f.handling])
   go_wp2_with fail
   refine(qB f.topic _ (by have:=HTS.o;omega)).mono ?_;rintro e w4 ⟨rfl,hb4⟩;have S5:=aa (S4.o.below hb4);have HB5:=aa (HB4.o.trans (hb4.mono HB4.o.size));have K5:=aa (K4.o.below hb4 K4.o.lt);clear hb4 kk c0 c1 c2 c3 c4;have kk:=(S5.o.cell 0 rfl 0).trans (cI _ _);cases hfl:gj f.topic
   ·have HX:Hid (sbE v p=10):=aa (by
     have e:fiE v p.kind p.filters=10:=by rw[HAT.o,if_pos hfl]
     rw[HE2.o,e,if_pos (by decide)])
    clear hfl;go_wp2;go_ret;exact⟨by rw[HX.o];rfl,S5.o.kept⟩
   have HAT2:Hid (fiE v p.kind p.filters=if nT v p.kind f=false then 2 else fiE v p.kind (p.filters.drop (k+1))):=aa (by rw[HAT.o,ae (by rw[hfl];decide)]);clear hfl;have c0:=K5.o.cell 0;have c1:=K5.o.cell 1;have c2:=K5.o.cell 2;have c3:=K5.o.cell 3;have c4:=K5.o.cell 4
   simp only[ay,aE,aB]at c0 c1 c2 c3 c4
   go_wp2_with fail
   refine(BT v p.kind f _ (by have:=HTS.o;omega)).mono ?_;rintro e w5 ⟨rfl,hb5⟩;have S6:=aa (S5.o.below hb5);have HB6:=aa (HB5.o.trans (hb5.mono HB5.o.size));clear hb5 c0 c1 c2 c3 c4 kk;cases hop:nT v p.kind f
   ·have HX:Hid (sbE v p=2):=aa (by
     have e:fiE v p.kind p.filters=2:=by rw[HAT2.o,if_pos hop]
     rw[HE2.o,e,if_pos (by decide)])
    clear hop;go_wp2;go_ret;exact⟨by rw[HX.o];rfl,S6.o.kept⟩
   have HX:Hid (fiE v p.kind p.filters=fiE v p.kind (p.filters.drop (k+1))):=aa (by rw[HAT2.o,ae (by rw[hop];decide)]);clear hop;go_wp2
   go_roundw
   case rel=>
    simp only[hA]
    (repeat apply Exists.intro)
    refine⟨?_,rfl⟩;exact⟨k+1,by omega,by go_num,HX.o,HB6.o⟩
   case measure=>simp[intOf];omega
  ·obtain rfl:k=n:=by omega
   have HX:Hid (sbE v p=cdE v p.kind p.codes):=aa (by
    have e:fiE v p.kind p.filters=0:=by rw[HF.o,<-HN.o,ox];rfl
    rw[HE2.o,e,ae (fun y=>y rfl)])
   clear HE2 HF;go_wp2
   go_loopw [50] (fun i wq=>∃k:Nat,k<=m/\i= .int .i64 k/\cdE v p.kind p.codes=cdE v p.kind (p.codes.drop k)/\Below wr.heap.size wr wq) (fun i _=>m- (intOf i).toNat)
   case atStart=>exact⟨0,by omega,rfl,by rw[cS],aq _ _⟩
   case round=>
    obtain⟨j,hj,rfl,hcd,hbq⟩:=hrel;have S4:=aa (S3.o.below hbq);have HC:=aa hcd;have HBQ:=aa hbq
    clear hcd kk k22;have kk:=(S4.o.cell 0 rfl 0).trans (cI _ _)
    by_cases hlt2:j<m
    ·have hp:j<p.codes.length:=by rw[HM.o];exact hlt2
     obtain⟨b,o,z,hA,hb,hz,hc⟩:=((S4.o.into 0 rfl).codes).atI hp;have HZ:Hid (cdE v p.kind p.codes=if xF v p.kind z=false then 2 else cdE v p.kind (p.codes.drop (j+1))):=aa (by
      rw[HC.o,F8 hp];rw[List.getElem?_eq_getElem hp]at hz;rw[Option.some.inj hz])
     have b1:(0:Int)<=(j:Int):=by omega
     have b2:(j:Int)<(m:Int):=by omega
     clear hp hz
     go_wp2_with fail
     refine(Dx v p.kind z _).mono ?_;rintro e w5 ⟨rfl,hb5⟩;have S5:=aa (S4.o.below hb5);have HB5:=aa (HBQ.o.trans (hb5.mono HBQ.o.size));clear hb5 hc kk;cases hop:xF v p.kind z
     ·have HX2:Hid (sbE v p=2):=aa (by rw[HX.o,HZ.o,if_pos hop]);clear hop;go_wp2;go_ret;exact⟨by rw[HX2.o];rfl,S5.o.kept⟩
     have HX2:Hid (cdE v p.kind p.codes=cdE v p.kind (p.codes.drop (j+1))):=aa (by rw[HZ.o,ae (by rw[hop];decide)]);clear hop;go_wp2
     go_roundw
     case rel=>
      simp only[hA]
      (repeat apply Exists.intro)
      refine⟨?_,rfl⟩;exact⟨j+1,by omega,by go_num,HX2.o,HB5.o⟩
     case measure=>simp[intOf];omega
    ·obtain rfl:j=m:=by omega
     have HX2:Hid (sbE v p=0):=aa (by rw[HX.o,HC.o,<-HM.o,ox];rfl);go_wp2;go_ret;exact⟨by rw[HX2.o];rfl,S4.o.kept⟩
end
section
def OB(w:World)(base:Nat)(v:Value)(l:List UInt8):Prop:=
 ∃g cap,v= .slice (some ⟨g,0,none⟩) l.length cap/\base<=g/\g<w.heap.size/\l.length<=cap/\w.there g 0 cap/\w.rangeAt g 0 (bys l)
section
variable {w w':World} {base:Nat} {v:Value} {l:List UInt8}
theorem Vx{w:World}{g o:Nat}{a b:List Value}(ha:w.rangeAt g o a)(hb:w.rangeAt g (o+a.length) b):w.rangeAt g o (a++b):=by
 intro j u hu
 by_cases hj:j<a.length
 ·rw[jd hj]at hu;exact ha j u hu
 ·rw[iM (by omega)]at hu;have:=hb _ u hu;rwa[show o+a.length+(j- a.length)=o+j by omega]at this
theorem pG(a b:List UInt8):bys (a++b)=bys a++bys b:=by simp[bys]
theorem OB.below(h:OB w base v l)(hb:Below w.heap.size w w'):OB w' base v l:=by
 obtain⟨g,cap,hv,h1,h2,h3,h4,h5⟩:=h;refine⟨g,cap,hv,h1,ch h2 hb.size,h3,fun j hj=>?_,fun j u hu=>?_⟩
 ·rw[hb.cell (p:=⟨g,0+j,none⟩) h2,hb.frozen (p:=⟨g,0+j,none⟩) h2];exact h4 j hj
 ·rw[hb.cell (p:=⟨g,0+j,none⟩) h2];exact h5 j u hu
theorem OB.drewN(h:OB w base v l)(n:Nat):OB (w.drewN n) base v l:=h
theorem OB.rd(h:OB w base v l):∃A c,v= .slice A l.length c/\Rd w w.heap.size 1 A l.length (bys l):=by
 obtain⟨g,cap,hv,h1,h2,h3,h4,h5⟩:=h;refine⟨_,cap,hv,by rw[nu,rB],.inr ⟨g,0,rfl,h2,fun j u hu=>?_⟩⟩;exact h5 j u hu
theorem OB.block(h:OB w base v l):∀g,v.ownBlock=some g->base<=g/\g<w.heap.size:=by
 obtain⟨g,cap,rfl,h1,h2,h3,h4,h5⟩:=h;intro k hk;simp[Value.ownBlock]at hk;subst hk;exact⟨h1,h2⟩
theorem Uy(g:Nat):∀(vs:List Value) (o:Nat) (w:World),w.grownBy (w.setCells g o vs) (some g)
 | [],_,w=>jy w _
 | v :: r,o,w=>by
   rw[World.setCells];exact(cP w g o v).trans (Uy g r (o+1) _)
theorem U6(w:World)(cs:Array Value)(t:TypeId)(n:Nat)(hn:n<=cs.size):(w.alloc (.cells cs t)).there w.heap.size 0 n:=by
 intro j hj;have hb:=Bk.fresh w t cs;rw[bV,hb.cell,hb.free];exact⟨by rw[eL (by omega)];rfl,rfl⟩
theorem U9(w:World)(cs:Array Value)(t:TypeId)(xs:List Value)(h:∀(j:Nat) (u:Value),xs[j]? =some u->cs[j]? =some u):(w.alloc (.cells cs t)).rangeAt w.heap.size 0 xs:=by
 intro j u hu;have hb:=Bk.fresh w t cs;rw[bV,hb.cell];exact h j u hu
end
section
variable {P:Program} (w:World) {base:Nat} {v:Value} {l:List UInt8}
theorem Uw(s:ByteArray):Lib.strCells s=bys (ls s):=by
 simp[Lib.strCells,bys,ls]
theorem Vu{g cap:Nat}(h1:base<=g)(h2:g<w.heap.size)(h4:w.there g 0 cap)(h5:w.rangeAt g 0 (bys l))(m:List UInt8)(hr:l.length+m.length<=cap):
  OB (w.setCells g l.length (bys m)) base (.slice (some ⟨g,0,none⟩) (l.length+m.length) cap) (l++m):=by
 refine⟨g,cap,by rw[List.length_append],h1,ch h2 (Uy g (bys m) l.length w).size,by rw[List.length_append];exact hr,World.there_setCells h4 g _ _,?_⟩;rw[pG];refine Vx (World.rangeAt_setCells_apart h5 g _ _ (.inr (.inl (by rw[nu];omega)))) ?_;rw[nu,bV];refine World.rangeAt_setCells_same w g _ _ fun j hj=>?_;have:=h4 (l.length+j) (by rw[nu]at hj;omega);rwa[bV]at this
theorem Vv(e:TypeId)(m:List UInt8)(c:Nat)(hb:base<=w.heap.size)(hc:l.length+m.length<=c):
  OB (w.drew.alloc (.cells ((bys l).toArray++(bys m).toArray++Builtin.zeroCells (Value.int .u8 0).cells (c- (l.length+m.length))) e)) base (.slice (some ⟨w.heap.size,0,none⟩) (l.length+m.length) c) (l++m):=by
 have hz:((bys l).toArray++(bys m).toArray++Builtin.zeroCells (Value.int .u8 0).cells (c- (l.length+m.length))).size=c:=by
  have hz1:(Value.int IntKind.u8 0).cells.size=1:=rfl;simp only[Array.size_append,WO,size_zeroCells,hz1,nu];omega
 refine⟨w.heap.size,c,by rw[List.length_append],hb,by simp,by rw[List.length_append];exact hc,?_,?_⟩
 ·exact U6 w.drew _ _ _ (by rw[hz];exact ac _)
 ·refine U9 w.drew _ _ _ fun j u hu=>?_;rw[pG]at hu;have hj:=(cR.1 hu).1;have e1:(bys l).toArray++(bys m).toArray=(bys l++bys m).toArray:=by simp
  rw[e1,Array.getElem?_append_left (by rw[WO];exact hj),ay];exact hu
theorem VO(t u ty e:TypeId)(ht:P.underlying t=some (.slice e))(hu:P.underlying u=some .string)(hinfo:(P.info? e).map (fun i=>(i.zero,i.size,i.bytes))=some (some (.int .u8 0),1,1))
  (hown:OB w base v l)(hbase:base<=w.heap.size)(s:ByteArray)(hbytes:l.length+s.size<=140737488355328):
  ∃v' w',(Builtin.append_ #[t,u] ty #[v,.string s]).run P w= .ok v' w'/\OB w' base v' (l++ls s)/\w.grownBy w' v.ownBlock:=by
 obtain⟨i,hi,hz,hsize,hby⟩:=o8 hinfo;obtain⟨g,cap,rfl,h1,h2,h3,h4,h5⟩:=hown
 by_cases hroom:l.length+s.size<=cap
 ·have hf:=Lib.run_firstCells_string (P:=P) w 1 s;have hst:=run_storeCells_cells (P:=P) g l.length (Lib.strCells s) 0 w (fun j hj=>by
    rw[Uw,nu,aN]at hj;have:=(h4 (l.length+j) (by omega)).1;rwa[bV]at this) (fun j hj=>by
    rw[Uw,nu,aN]at hj;have:=(h4 (l.length+j) (by omega)).2;rwa[bV]at this) (Lib.strCells_oneCell s)
  rw[jV]at hst;refine⟨.slice (some ⟨g,0,none⟩) (l.length+s.size) cap,_,?_,?_,Uy g (bys (ls s)) l.length w⟩
  ·rw[<-Uw];simp[Builtin.append_,run_underlying ht,run_underlying hu,sizeOf,typeInfo,hi,hsize,Builtin.lenOf,hroom,hf,Addr.add_lit,hst]
  ·have:=Vu w h1 h2 h4 h5 (ls s) (by rw[aN];exact hroom);rwa[aN]at this
 ·have hr:=Lib.run_append_grow_string (P:=P) w t u ty e i (.int .u8 0) ht hu hi hz ⟨g,0,none⟩ l.length cap (bys l) (by rw[hsize,nu,rB]) (fun j u hj=>by rw[Addr.add_lit];exact h5 j u hj) s (by omega) (by omega) (by rw[hby];exact growslice_fits (by omega) (by omega));rw[Uw]at hr;refine⟨_,_,hr,?_,⟨rfl,rfl,rfl,by simp,fun k hk _=>UC w.drew _ k hk⟩⟩;have:=Vv (base:=base) (l:=l) w e (ls s) (grownCap w (l.length+s.size) cap e) hbase (by rw[aN];exact grownCap_ge w (l.length+s.size) cap e);rw[aN]at this;exact this
theorem VP(t ty e:TypeId)(ht:P.underlying t=some (.slice e))(hinfo:(P.info? e).map (fun i=>(i.zero,i.size,i.bytes))=some (some (.int .u8 0),1,1))
  (hown:OB w base v l)(hbase:base<=w.heap.size)(a:Addr)(c:Nat)(m:List UInt8)(hnews:∀j u,(bys m)[j]? =some u->w.cell? (a.add j)=some u)(hbytes:l.length+m.length<=140737488355328):
  ∃v' w',(Builtin.append_ #[t,t] ty #[v,.slice (some a) m.length c]).run P w= .ok v' w'/\OB w' base v' (l++m)/\w.grownBy w' v.ownBlock:=by
 obtain⟨i,hi,hz,hsize,hby⟩:=o8 hinfo;obtain⟨g,cap,rfl,h1,h2,h3,h4,h5⟩:=hown
 by_cases hroom:l.length+m.length<=cap
 ·have hf:=run_firstCells_some (P:=P) w i.size m.length a m.length c (bys m) (by rw[hsize,nu,rB]) hnews;rw[hsize]at hf;have hst:=run_storeCells_cells (P:=P) g l.length (bys m) 0 w (fun j hj=>by
    rw[nu]at hj;have:=(h4 (l.length+j) (by omega)).1;rwa[bV]at this) (fun j hj=>by
    rw[nu]at hj;have:=(h4 (l.length+j) (by omega)).2;rwa[bV]at this) (tG m)
  rw[jV]at hst;refine⟨.slice (some ⟨g,0,none⟩) (l.length+m.length) cap,_,?_,Vu w h1 h2 h4 h5 m hroom,Uy g (bys m) l.length w⟩;simp[Builtin.append_,run_underlying ht,sizeOf,typeInfo,hi,hsize,Builtin.lenOf,hroom,hf,Addr.add_lit,hst]
 ·have hr:=run_append_grow (P:=P) w t ty e i (.int .u8 0) ht hi hz ⟨g,0,none⟩ l.length cap (bys l) (by rw[hsize,nu,rB]) (fun j u hj=>by rw[Addr.add_lit];exact h5 j u hj) a m.length c (bys m) (by rw[hsize,nu,rB]) hnews (by omega) (by omega) (by rw[hby];exact growslice_fits (by omega) (by omega));exact⟨_,_,hr,Vv (base:=base) (l:=l) w e m (grownCap w (l.length+m.length) cap e) hbase (grownCap_ge w (l.length+m.length) cap e),⟨rfl,rfl,rfl,by simp,fun k hk _=>UC w.drew _ k hk⟩⟩
theorem UF{ops:Array Oper}{rest:List Oper}{o:Oper}{a:Act}{Q:Exit->Act->World->Prop}(hgd:o.guard=none)(sl x:Operand)(t u:TypeId)
  (ho:o.op= .call {callee:=.builtin .append,args:=#[sl,x],argTypes:=#[t,u]})(base:Nat)(e:TypeId)(ht:P.underlying t=some (.slice e))(hu:P.underlying u=some .string)
  (hinfo:(P.info? e).map (fun i=>(i.zero,i.size,i.bytes))=some (some (.int .u8 0),1,1))
  (v:Value)(l:List UInt8)(hs:a.eval sl=v)(hown:OB w base v l)(s:ByteArray)(hx:a.eval x= .string s)(hbytes:l.length+s.size<=140737488355328)(hbase:base<=w.heap.size)
  (h:∀v' w',OB w' base v' (l++ls s)->w.grownBy w' v.ownBlock->wpList P ops Q rest (a.put o.dst v') w'):wpList P ops Q (o :: rest) a w:=by
 refine lb hgd fun K hK=>?_;obtain⟨v',w',hr,h2,h3⟩:=VO (P:=P) w t u o.type e ht hu hinfo hown hbase s hbytes;unfold Oper.wp execOp;simp only[ho,resolve,invoke,builtin,Sem.run_bind,Sem.run_pure,ik,kD,fI,gC,hs,hx,hr];exact hK _ _ (h v' w' h2 h3)
theorem Vo{ops:Array Oper}{rest:List Oper}{o:Oper}{a:Act}{Q:Exit->Act->World->Prop}(hgd:o.guard=none)(sl x:Operand)(t:TypeId)
  (ho:o.op= .call {callee:=.builtin .append,args:=#[sl,x],argTypes:=#[t,t]})(base:Nat)(e:TypeId)(ht:P.underlying t=some (.slice e))
  (hinfo:(P.info? e).map (fun i=>(i.zero,i.size,i.bytes))=some (some (.int .u8 0),1,1))
  (v:Value)(l:List UInt8)(hs:a.eval sl=v)(hown:OB w base v l)(ad:Addr)(c:Nat)(m:List UInt8)(hx:a.eval x= .slice (some ad) m.length c)(hnews:∀j u,(bys m)[j]? =some u->w.cell? (ad.add j)=some u)
  (hbytes:l.length+m.length<=140737488355328)(hbase:base<=w.heap.size)
  (h:∀v' w',OB w' base v' (l++m)->w.grownBy w' v.ownBlock->wpList P ops Q rest (a.put o.dst v') w'):wpList P ops Q (o :: rest) a w:=by
 refine lb hgd fun K hK=>?_;obtain⟨v',w',hr,h2,h3⟩:=VP (P:=P) w t o.type e ht hinfo hown hbase ad c m hnews hbytes;unfold Oper.wp execOp;simp only[ho,resolve,invoke,builtin,Sem.run_bind,Sem.run_pure,ik,kD,fI,gC,hs,hx,hr];exact hK _ _ (h v' w' h2 h3)
theorem VQ{w:World}{B n:Nat}{ad:Addr}{xs:List Value}(hr:Rd w B 1 (some ad) n xs):∀(j:Nat) (u:Value),xs[j]? =some u->w.cell? (ad.add j)=some u:=by
 rcases hr.2 with h0| ⟨b,o,h,_,hc⟩
 ·subst h0;intro j u hu;simp at hu
 ·cases h;intro j u hu;rw[Addr.add_lit];exact hc j u hu
theorem UN{ops:Array Oper}{rest:List Oper}{o:Oper}{a:Act}{Q:Exit->Act->World->Prop}(hgd:o.guard=none)(sl x:Operand)(t:TypeId)
  (ho:o.op= .call {callee:=.builtin .append,args:=#[sl,x],argTypes:=#[t,t]})(base:Nat)(e:TypeId)(ht:P.underlying t=some (.slice e))
  (hinfo:(P.info? e).map (fun i=>(i.zero,i.size,i.bytes))=some (some (.int .u8 0),1,1))
  (v:Value)(l:List UInt8)(hs:a.eval sl=v)(hown:OB w base v l)(B:Nat)(ad:Addr)(c:Nat)(m:List UInt8)(hx:a.eval x= .slice (some ad) m.length c)(hr:Rd w B 1 (some ad) m.length (bys m))
  (hbytes:l.length+m.length<=140737488355328)(hbase:base<=w.heap.size)
  (h:∀v' w',OB w' base v' (l++m)->w.grownBy w' v.ownBlock->wpList P ops Q rest (a.put o.dst v') w'):wpList P ops Q (o :: rest) a w:=
 Vo w hgd sl x t ho base e ht hinfo v l hs hown ad c m hx (VQ hr) hbytes hbase h
theorem OB.alloc{w:World}{base:Nat}{v:Value}{l:List UInt8}(h:OB w base v l)(o:Obj):OB (w.alloc o) base v l:=h.below ((aq _ _).alloc (ac _) o)
theorem V7(src dst e:TypeId)(s:ByteArray){d:TypeDesc}(hs:P.underlying src=some d)(hd:P.underlying dst=some (.slice e))(he:P.underlying e=some (.int .u8)):
  ∃v w',(convert src dst (.string s)).run P w= .ok v w'/\OB w' w.heap.size v (ls s)/\Below w.heap.size w w':=by
 refine⟨_,_,Lib.run_convert_string_bytes w src dst e s hs hd he,?_,?_⟩
 ·have hnew:=Lib.bytesWorld_at_new w e s;have hge:=grownCap_ge w s.size 0 e;have hsz:(Lib.bytesCells w e s).size=grownCap w s.size 0 e:=by
   simp[Lib.bytesCells];have:s.data.size=s.size:=rfl;omega
  refine⟨w.heap.size,grownCap w s.size 0 e,by rw[aN],ac _,by rw[Lib.bytesWorld_size];omega,by rw[aN];exact hge,fun j hj=>?_,fun j u hu=>?_⟩
  ·rw[bV,cell_of_row _ _ _ _ _ _ hnew];refine⟨by rw[eL (by omega)];rfl,?_⟩;simp only[World.frozen?,hnew,Kz,Ip]
   left
   omega
  ·rw[bV,cell_of_row _ _ _ _ _ _ hnew];have hj:=(cR.1 hu).1;rw[nu,aN]at hj;unfold Lib.bytesCells;rw[Array.getElem?_append_left (by rw[Array.size_map];exact hj),Array.getElem?_map];unfold bys at hu;rw[List.getElem?_map]at hu;rw[<-hu,show(ls s)[j]? =s.data[j]? from Array.getElem?_toList]
 ·exact⟨rfl,rfl,rfl,by rw[Lib.bytesWorld_size];omega,fun k hk=>Lib.bytesWorld_at_old w e s k hk⟩
end
end
theorem Bu(s:ByteArray):(dJ s).2.1<=s.size/\(dJ s).1.size<=65535:=by
 unfold dJ;split
 ·exact⟨ag _,ag _⟩
 ·split
  ·exact⟨ag _,ag _⟩
  ·refine⟨by show 2+br s 0 0 2<=s.size;omega,?_⟩;rw[aj];have:=gU s 0 0 (ag _);omega
theorem uq(s:ByteArray):(bL s).2.1<=s.size/\(bL s).1.size<=65535:=by
 unfold bL;split
 ·exact⟨ag _,ag _⟩
 ·exact Bu s
def rbC(t:ByteArray)(a:Nat)(e:Int):ByteArray×Nat×Int:=if e≠0 then(⟨#[]⟩,a,e)else((dJ (t.extract a t.size)).1,a+(dJ (t.extract a t.size)).2.1,(dJ (t.extract a t.size)).2.2)
def rtC(t:ByteArray)(a:Nat)(e:Int):ByteArray×Nat×Int:=if e≠0 then(⟨#[]⟩,a,e)else((bL (t.extract a t.size)).1,a+(bL (t.extract a t.size)).2.1,(bL (t.extract a t.size)).2.2)
theorem yO{t:ByteArray}{a:Nat}{e:Int}(he:e≠0):eB t a e=(⟨#[]⟩,a,e):=by
 unfold eB;rw[fY he];exact fY he
theorem xP{t:ByteArray}{a:Nat}{e:Int}(he:e≠0):(fX t a e).2.2=e:=by
 unfold fX;rw[yO he];simp only;split
 ·rfl
 ·exact ae he
theorem Fu{t:ByteArray}{a:Nat}(h:a<=t.size)(e:Int):(rbC t a e).2.2=(eB t a e).2.2/\((eB t a e).2.2=0->rbC t a e=eB t a e):=by
 by_cases he:e=0
 rotate_left
 ·have h1:rbC t a e=eB t a e:=by rw[yO he];exact if_pos he
  exact⟨by rw[h1],fun _=>h1⟩
 subst he;have hz:(t.extract a t.size).size=t.size- a:=by rw[aj];omega
 by_cases h2:t.size<a+2
 ·have h1:rbC t a 0=eB t a 0:=by
   unfold rbC eB;rw[ae (fun x=>x rfl),show(2:Int)=((2:Nat):Int)from rfl,kH (by omega)];simp only;rw[fY (by decide)];unfold dJ;rw[if_pos (by omega)];rfl
  exact⟨by rw[h1],fun _=>h1⟩
 have hn:br (t.extract a t.size) 0 0 2=br t a 0 2:=by
  unfold br;rw[show(2:Int)=((2:Nat):Int)from rfl,dZ (t:=t.extract a t.size) (by omega),dZ (t:=t) (by omega)];simp only;rw[db,db,ju,cS]
 have hB:eB t a 0=aH t (a+2) 0 (br t a 0 2:Nat):=by
  unfold eB;rw[show aH t a 0 2=(t.extract a (a+2),a+2,0)from dZ (k:=2) (by omega)]
 have hR:rbC t a 0=((dJ (t.extract a t.size)).1,a+(dJ (t.extract a t.size)).2.1,(dJ (t.extract a t.size)).2.2):=ae (fun x=>x rfl);rw[hB,hR];unfold dJ;rw[ae (by omega),hn];generalize br t a 0 2=n
 by_cases h3:t.size<a+2+n
 ·rw[kH (by omega),if_pos (by omega)];exact⟨rfl,fun x=>by cases x⟩
 ·rw[dZ (by omega),ae (by omega)];refine⟨rfl,fun _=>?_⟩;have e1:(t.extract a t.size).extract 2 (2+n)=t.extract (a+2) (a+2+n):=eX (by
   rw[db,db,ju,et])
  simp only;rw[e1,Nat.add_assoc]
theorem Fq{t:ByteArray}{a:Nat}(h:a<=t.size)(e:Int):(rtC t a e).2.2=(fX t a e).2.2/\((fX t a e).2.2=0->rtC t a e=fX t a e):=by
 by_cases he:e=0
 rotate_left
 ·have h1:(rtC t a e).2.2=e:=by rw[show rtC t a e=(⟨#[]⟩,a,e)from if_pos he]
  exact⟨by rw[h1,xP he],fun x=>absurd ((xP he).symm.trans x) he⟩
 subst he;have hR:rtC t a 0=((bL (t.extract a t.size)).1,a+(bL (t.extract a t.size)).2.1,(bL (t.extract a t.size)).2.2):=ae (fun x=>x rfl);have hb:rbC t a 0=((dJ (t.extract a t.size)).1,a+(dJ (t.extract a t.size)).2.1,(dJ (t.extract a t.size)).2.2):=ae (fun x=>x rfl);obtain⟨g1,g2⟩:=Fu h 0;rw[hR]
 by_cases hz:(eB t a 0).2.2=0
 ·have g3:=g2 hz;rw[hb]at g3;have g4:(dJ (t.extract a t.size)).1=(eB t a 0).1:=by rw[<-g3]
  have g5:(dJ (t.extract a t.size)).2.2=0:=by rw[<-hz,<-g3]
  by_cases hv:bN (eB t a 0).1=true
  ·have hU:bL (t.extract a t.size)=dJ (t.extract a t.size):=by
    unfold bL;rw[ae (fun y=>by rw[g4,hv]at y;cases y.2)]
   have hT:fX t a 0=eB t a 0:=by unfold fX;rw[if_pos hv]
   rw[hU,hT,<-g3];exact⟨rfl,fun _=>rfl⟩
  ·have hU:bL (t.extract a t.size)=(⟨#[]⟩,0,6):=by
    unfold bL;rw[if_pos ⟨g5,by rw[g4];simpa using hv⟩]
   have hT:(fX t a 0).2.2=6:=by
    unfold fX;rw[ae hv];simp only;rw[hz];rfl
   rw[hU,hT];exact⟨rfl,fun x=>by cases x⟩
 ·have g5:(dJ (t.extract a t.size)).2.2=(eB t a 0).2.2:=by rw[<-g1,hb]
  have hU:bL (t.extract a t.size)=dJ (t.extract a t.size):=by
   unfold bL;rw[ae (fun y=>hz (g5.symm.trans y.1))]
  have hT:(fX t a 0).2.2=(eB t a 0).2.2:=by
   unfold fX;simp only;split
   ·rfl
   ·exact ae hz
  rw[hU,hT];exact⟨g5,fun x=>absurd x hz⟩
theorem Bt(kind:Int)(s:ByteArray):(aZ kind s).2.1<=s.size:=by
 by_cases h:(aZ kind s).2.2=0
 ·exact(fd (kind:=kind) (s:=s) (l:=(aZ kind s).1) (n:=(aZ kind s).2.1) (by rw[<-h])).2.2
 ·rw[fZ h];exact ag _
theorem Ec(v k:Int){t:ByteArray}{a:Nat}(e:Int)(h:a<=t.size):(fv v k t a e).2.1<=t.size:=by
 unfold fv;split
 ·exact h
 ·have:=Bt k (t.extract a t.size);rw[aj]at this;simp only;omega
theorem pS(v:Int)(w:World):Calls prog 93 #[.int .i64 v] w fun e w'=>e= .returned (.bool (ba v))/\w=w':=by
 have HE:Hid (ba v=decide (v=4\/v=5)):=aa rfl
 by_cases h4:v=4
 ·have HX:Hid (ba v=true):=aa (by rw[HE.o];exact au (.inl h4));have e4:(v==4)=true:=aK.2 h4;clear h4;go_enter func93,ntmps93;go_wp2;go_ret;exact⟨by rw[HX.o];rfl,rfl⟩
 have e4:(v==4)=false:=ar.2 h4
 by_cases h5:v=5
 ·have HX:Hid (ba v=true):=aa (by rw[HE.o];exact au (.inr h5));have e5:(v==5)=true:=aK.2 h5;clear h4 h5;go_enter func93,ntmps93;go_wp2;go_ret;exact⟨by rw[HX.o];rfl,rfl⟩
 ·have HX:Hid (ba v=false):=aa (by rw[HE.o];exact ah (by omega));have e5:(v==5)=false:=ar.2 h5;clear h4 h5;go_enter func93,ntmps93;go_wp2;go_ret;exact⟨by rw[HX.o];rfl,rfl⟩
end Go.Proofs.YtbdgkkmbnahgiaaGreatDoor
