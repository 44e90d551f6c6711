/- A part of what the laws stand on: MTop, MVar. -/
import Derived.Test.YtbdgkkmbnahgiaaGreatDoorMxG0MKit
import Derived.Lib.OthersKept
import Derived.Lib.RuneCount
import Derived.Lib.DecodeN
import Derived.Lib.MapLaws
import Derived.Shelf.Strings.IndexAnyAll
import Derived.Laws.Runes
import Derived.LoopN
import Derived.WalkMore
import Derived.RegionTactic
import Derived.BigRegion
set_option maxRecDepth 10000
set_option maxHeartbeats 8000000
namespace Go.Proofs.YtbdgkkmbnahgiaaGreatDoor
open Go.RowKit Go.Proofs.Tryz
def kb(s:ByteArray):Bool:=decide (3<=s.size)&&((s.extract 0 3).toList==[239,191,189])
theorem rD(s:ByteArray)(w:World)(hs:s.size<=4611686018427387904):
  Calls prog 218 #[.string s] w fun e w'=>e= .returned (.bool (kb s))/\w=w':=by
 by_cases h:3<=s.size
 ·have h':(3:Int)<=(s.size:Int):=by omega
  have HF:Hid (kb s=((s.extract 0 3).toList==[239,191,189])):=by show _=_;simp[kb,h]
  go_enter func218,ntmps218;go_wp2;go_ret;exact⟨by rw[HF.o];rfl,rfl⟩
 ·have h':(s.size:Int)<(3:Int):=by omega
  have HF:Hid (kb s=false):=by show _=_;simp[kb,h]
  go_enter func218,ntmps218;go_wp2;go_ret;exact⟨by rw[HF.o];rfl,rfl⟩
def xD:Nat->ByteArray->Nat->Int
 | 0,_,_=>-1
 | f+1,s,pos=>if pos<s.size then(if(Utf8.decode s pos).1=0\/((Utf8.decode s pos).1=65533/\(Utf8.decode s pos).2=1)then(pos:Int)else xD f s (pos+(Utf8.decode s pos).2))else -1
def tI(s:ByteArray):Int:=xD s.size s 0
def bN(s:ByteArray):Bool:=decide (s.size<=65535)&&(tI s== -1)
theorem lG(s:ByteArray)(pos k:Nat)(h:pos+k<s.size):(s.extract pos s.size).data.toList[k]? =some (s.get! (pos+k)):=by
 rw[Lib.extract_data];rw[List.getElem?_take,if_pos (by omega),List.getElem?_drop];show s.data.toList[pos+k]? =_;rw[List.getElem?_eq_getElem (by simpa using h)];simp[ByteArray.get!,getElem!_pos,h]
theorem wi{l:List UInt8}{a b c:UInt8}(h0:l[0]? =some a)(h1:l[1]? =some b)(h2:l[2]? =some c):l.take 3=[a,b,c]:=by
 match l,h0,h1,h2 with
 | x :: y :: z :: t,h0,h1,h2=>simp at*;exact⟨h0,h1,h2⟩
theorem tF{a:UInt8}{n:Nat}(hn:n<256):a=UInt8.ofNat n↔a.toNat=n:=by
 constructor
 ·rintro rfl;rw[UInt8.toNat_ofNat'];omega
 ·rintro rfl;simp
theorem yW(s:ByteArray)(pos:Nat)(hd:(Utf8.decode s pos).1=65533):kb (s.extract pos s.size)= !decide ((Utf8.decode s pos).2=1):=by
 have hsz:(s.extract pos s.size).size=s.size- pos:=by rw[aj];omega
 rw[Lib.decode_at]at*
 by_cases h3:3<=s.size- pos
 ·have hl:((s.extract pos s.size).extract 0 3).toList=[s.get! pos,s.get! (pos+1),s.get! (pos+2)]:=by
   rw[ByteArray.toList_eq,Lib.extract_data,cS];exact wi (lG s pos 0 (by omega)) (lG s pos 1 (by omega)) (lG s pos 2 (by omega))
  have hw:kb (s.extract pos s.size)=decide ((s.get! pos).toNat=239/\(s.get! (pos+1)).toNat=191/\(s.get! (pos+2)).toNat=189):=by
   unfold kb;rw[hsz,hl,eG];simp only[h3,decide_true,aL,aK,gY,Hj,cH];rw[show(239:UInt8)=UInt8.ofNat 239 by rfl,show(191:UInt8)=UInt8.ofNat 191 by rfl,show(189:UInt8)=UInt8.ofNat 189 by rfl,tF (by omega),tF (by omega),tF (by omega)]
  rw[hw];generalize s.size- pos=n at*;generalize (s.get! pos).toNat=b0 at*;generalize (s.get! (pos+1)).toNat=b1 at*;generalize (s.get! (pos+2)).toNat=b2 at*;generalize (s.get! (pos+3)).toNat=b3 at*
  by_cases hc:b0=239/\b1=191/\b2=189
  ·obtain⟨rfl,rfl,rfl⟩:=hc;have:Lib.decodeN n 239 191 189 b3=(65533,3):=by
    unfold Lib.decodeN;rw[ae (by omega),ae (by omega),if_pos ⟨by omega,⟨by omega,by omega⟩,by omega,by omega⟩,if_pos ⟨by omega,by omega⟩]
   rw[this]
   decide
  ·have:(Lib.decodeN n b0 b1 b2 b3).2=1:=by
    rcases Lib.decodeN_shape n b0 b1 b2 b3 with ⟨h1,h2⟩ | ⟨h1,h2,h4,h5,h6⟩ | ⟨h1,h2,h4,h5,h6,h7,h8⟩ | ⟨h1,h2,h4,h5,h6,h7,h8,h9⟩ | h1
    ·rw[h2]
    ·rw[h6]at hd;simp only at hd;omega
    ·rw[h8]at hd;simp only at hd;exfalso;apply hc;omega
    ·rw[h9]at hd;simp only at hd;omega
    ·rw[h1]
   rw[this];simp[hc]
 ·have hw:kb (s.extract pos s.size)=false:=by simp[kb,hsz,h3]
  rw[hw];have:(Lib.decodeN (s.size- pos) (s.get! pos).toNat (s.get! (pos+1)).toNat (s.get! (pos+2)).toNat (s.get! (pos+3)).toNat).2=1:=by
   rcases Lib.decodeN_shape (s.size- pos) (s.get! pos).toNat (s.get! (pos+1)).toNat (s.get! (pos+2)).toNat (s.get! (pos+3)).toNat with ⟨h1,h2⟩ | ⟨h1,h2,h4,h5,h6⟩ | ⟨h1,h2,h4,h5,h6,h7,h8⟩ | ⟨h1,h2,h4,h5,h6,h7,h8,h9⟩ | h1
   ·rw[h2]
   ·rw[h6]at hd;simp only at hd;omega
   ·omega
   ·omega
   ·rw[h1]
  rw[this];rfl
theorem Dv(s:ByteArray)(w:World)(hs:s.size<=4611686018427387904):
  Calls prog 162 #[.string s] w fun e w'=>e= .returned (.int .i64 (tI s))/\Below w.heap.size w w':=by
 go_enter func162,ntmps162;go_wp2
 go_loopw [] (fun wr=>∃(pos f:Nat),s.size<=pos+f/\tI s=xD f s pos/\wr.heap[w.heap.size]? =some (.stringIter s pos)/\Below w.heap.size w wr) (fun wr=>s.size- wr.iterPos w.heap.size)
 case atStart=>exact⟨0,s.size,by omega,rfl,World.iter_heap w s 0,(aq _ _).alloc (ac _) _⟩
 case round=>
  obtain⟨pos,f,hfu,hv,hit,hbel⟩:=hrel;have hz:w.heap.size<wr.heap.size:=(cZ.1 hit).1;have HV:=aa hv;have HIT:=aa hit
  clear hv
  by_cases hp:pos<s.size
  ·have hnx:∀ty,(Instr.next (.pointer (some ⟨w.heap.size,0,none⟩)) true ty).run prog wr=_:=fun ty=>Lib.run_next_any_at wr w.heap.size s pos ty hit hp;have hwd:=Lib.decode_width_pos s pos hp;have hd1:=decode_le s pos;have hit2:=Lib.iterAt_heap wr w.heap.size s pos (pos+(Utf8.decode s pos).2) hit;have hbel2:=Lib.below_iterAt hbel (k:=w.heap.size) (ac _) s (pos+(Utf8.decode s pos).2);have hz2:w.heap.size<(wr.iterAt w.heap.size s (pos+(Utf8.decode s pos).2)).heap.size:=by rw[Lib.iterAt_size];omega
   have HIT2:=aa hit2;obtain⟨f,rfl⟩:∃f',f=f'+1:=⟨f- 1,by omega⟩;have HC:=aa (yW s pos);clear hit hit2;generalize hD:Utf8.decode s pos=D at*;have HD:=aa hD;clear hD
   obtain⟨c,wd⟩:=D;generalize wr.iterAt w.heap.size s (pos+wd)=w2 at*;simp only at hwd hd1 HC hnx;have hfin:tI s=if c=0\/(c=65533/\wd=1)then(pos:Int)else xD f s (pos+wd):=by
    rw[HV.o,xD,if_pos hp,HD.o]
   have HF:=aa hfin;clear hfin HV HD
   by_cases h0:c=0
   ·have HG:Hid (tI s=pos):=by show _=_;rw[HF.o,if_pos (.inl h0)]
    clear HF;subst h0;go_wp2;go_ret;exact⟨by rw[HG.o];rfl,hbel2⟩
   ·by_cases h1:c=65533
    ·have HW:=aa (HC.o h1)
     by_cases hw1:wd=1
     ·have HG:Hid (tI s=pos):=by show _=_;rw[HF.o,if_pos (.inr ⟨h1,hw1⟩)]
      clear HF;subst h1;subst hw1
      go_wp2_with fail
      refine(rD _ _ (by rw[aj];omega)).mono ?_;rintro e w' ⟨rfl,rfl⟩;rw[HW.o];go_wp2;go_ret;exact⟨by rw[HG.o];rfl,hbel2⟩
     ·have hdw:decide (wd=1)=false:=ah hw1;have HDW:=aa hdw;have HG:Hid (tI s=xD f s (pos+wd)):=by show _=_;rw[HF.o,ae (by omega)]
      clear hdw HF;subst h1
      go_wp2_with fail
      refine(rD _ _ (by rw[aj];omega)).mono ?_;rintro e w' ⟨rfl,rfl⟩;rw[HW.o,HDW.o];go_wp2
      go_roundw
      case rel=>exact⟨pos+wd,f,by omega,HG.o,HIT2.o,hbel2⟩
      case measure=>
       simp only[World.iterPos,HIT2.o,HIT.o];omega
    ·have h0':((c:Int)==0)=false:=ar.2 (by omega);have h1':((c:Int)==65533)=false:=ar.2 (by omega);go_wp2
     go_roundw
     case rel=>exact⟨pos+wd,f,by omega,by rw[HF.o,ae (by omega)],HIT2.o,hbel2⟩
     case measure=>
      simp only[World.iterPos,HIT2.o,HIT.o];omega
  ·have hnx:∀ty,(Instr.next (.pointer (some ⟨w.heap.size,0,none⟩)) true ty).run prog wr=_:=fun ty=>Lib.run_next_end_at wr w.heap.size s pos ty hit hp;have hfin:tI s= -1:=by
    rw[HV.o];cases f with
    | zero=>rfl
    | succ f=>rw[xD,ae hp]
   have HF:=aa hfin;clear hfin hit
   go_wp2;go_ret;exact⟨by rw[HF.o];rfl,hbel⟩
theorem fk(s:ByteArray)(w:World)(hs:s.size<=4611686018427387904):
  Calls prog 107 #[.string s] w fun e w'=>e= .returned (.bool (bN s))/\Below w.heap.size w w':=by
 by_cases h:s.size<=65535
 ·have h':(s.size:Int)<=65535:=by omega
  have HF:Hid (bN s=(tI s== -1)):=by show _=_;simp[bN,h]
  go_enter func107,ntmps107
  go_wp2_with fail
  refine(Dv _ _ hs).mono ?_;rintro e w1 ⟨rfl,hb⟩;go_wp2;go_ret;exact⟨by rw[HF.o];rfl,hb⟩
 ·have h':(65535:Int)<(s.size:Int):=by omega
  have HF:Hid (bN s=false):=by show _=_;simp[bN,h]
  go_enter func107,ntmps107;go_wp2;go_ret;exact⟨by rw[HF.o];rfl,aq _ _⟩
theorem xi(s:ByteArray)(w:World)(hs:s.size<=65535):
  Calls prog 108 #[.string s] w fun e w'=>e= .returned (.string (⟨(da s.size 2).toArray⟩++s))/\Below w.heap.size w w':=by
 go_enter func108,ntmps108
 go_wp2_with fail
 refine(pD s.size 2 _ (by omega) (by omega) (by omega)).mono ?_;rintro e w1 ⟨rfl,hb⟩;have hl:(da s.size 2).length<=2:=by rw[fM];omega
 go_wp2;go_ret;exact⟨rfl,hb⟩
def cQ(s:ByteArray):ByteArray:=⟨(da s.size 2).toArray⟩++s
theorem mN(s:ByteArray)(w:World)(hs:s.size<=4611686018427387904):
  Calls prog 160 #[.string s] w fun e w'=>e= .returned (.tuple #[.string (if s.size<=65535 then cQ s else⟨#[]⟩),.int .i64 (if s.size<=65535 then 0 else 2)])/\Below w.heap.size w w':=by
 by_cases h:s.size<=65535
 ·rw[if_pos h,if_pos h];have h':(s.size:Int)<=65535:=by omega
  go_enter func160,ntmps160
  go_wp2_with fail
  refine(xi _ _ h).mono ?_;rintro e w1 ⟨rfl,hb⟩;go_wp2;go_ret2;exact⟨rfl,hb⟩
 ·rw[ae h,ae h];have h':(65535:Int)<(s.size:Int):=by omega
  go_enter func160,ntmps160;go_wp2;go_ret2;exact⟨rfl,aq _ _⟩
end Go.Proofs.YtbdgkkmbnahgiaaGreatDoor
namespace Go.Proofs.YtbdgkkmbnahgiaaGreatDoor
open Go.RowKit Go.Shelf
open Go.Proofs.Tryz
theorem mj(c:Nat)(w:World)(hv:Utf8.valid c=true):
  Calls prog 355 #[.int .i32 c] w fun e w'=>e= .returned (.bool true)/\w=w':=by
 have hv':c<55296\/(57344<=c/\c<=1114111):=by
  simp[Utf8.valid]at hv;omega
 clear hv;rcases hv' with h| ⟨h1,h2⟩
 ·have h0:(c:Int)<55296:=by omega
  clear h;go_enter func355,ntmps355;go_wp2;go_ret;exact⟨rfl,rfl⟩
 ·have h0:¬(c:Int)<55296:=by omega
  have h3:(57343:Int)<c:=by omega
  have h4:(c:Int)<=1114111:=by omega
  clear h1 h2;go_enter func355,ntmps355;go_wp2;go_ret;exact⟨rfl,rfl⟩
def oO:Ren:=⟨fun| 153=>233| 152=>301| 226=>302| 227=>303| 228=>304| 137=>354| 119=>355| 224=>356| 225=>357| 217=>361| 266=>377| n=>n,fun| 9=>9| 3=>3| 4=>4| 5=>5| 21=>21| 117=>251| 116=>250| 0=>0| 46=>103| 124=>281| n=>n,fun n=>n⟩
theorem tj:Lays.n153 prog oO where
 mixed:=by kernel_rfl
 f119:=func355.trans (congrArg some (by kernel_rfl))
 f137:=func354.trans (congrArg some (by kernel_rfl))
 f152:=func301.trans (congrArg some (by kernel_rfl))
 f153:=func233.trans (congrArg some (by kernel_rfl))
 f217:=func361.trans (congrArg some (by kernel_rfl))
 f224:=func356.trans (congrArg some (by kernel_rfl))
 f225:=func357.trans (congrArg some (by kernel_rfl))
 f226:=func302.trans (congrArg some (by kernel_rfl))
 f227:=func303.trans (congrArg some (by kernel_rfl))
 f228:=func304.trans (congrArg some (by kernel_rfl))
 f266:=func377.trans (congrArg some (by kernel_rfl))
 t0:=underlying0
 a0:=Tryz.isAgg0
 z0:=Tryz.sizeOf0
 v0:=Tryz.zeroValue0
 t3:=underlying3
 a3:=Tryz.isAgg3
 z3:=Tryz.sizeOf3
 v3:=Tryz.zeroValue3
 t4:=underlying4
 a4:=Tryz.isAgg4
 z4:=Tryz.sizeOf4
 v4:=Tryz.zeroValue4
 t5:=underlying5
 a5:=Tryz.isAgg5
 z5:=Tryz.sizeOf5
 v5:=Tryz.zeroValue5
 t9:=underlying9
 a9:=Tryz.isAgg9
 z9:=Tryz.sizeOf9
 v9:=Tryz.zeroValue9
 t21:=underlying21
 a21:=Tryz.isAgg21
 z21:=Tryz.sizeOf21
 v21:=Tryz.zeroValue21
 t46:=underlying103
 a46:=Tryz.isAgg103
 z46:=Tryz.sizeOf103
 v46:=Tryz.zeroValue103
 t116:=underlying250
 a116:=Tryz.isAgg250
 z116:=Tryz.sizeOf250
 t117:=underlying251
 a117:=Tryz.isAgg251
 z117:=Tryz.sizeOf251
 v117:=Tryz.zeroValue251
 t124:=underlying281
 a124:=Tryz.isAgg281
 z124:=Tryz.sizeOf281
 v124:=Tryz.zeroValue281
theorem Be:(prog.info? (oO.t 116)).map (fun i=>(i.zero,i.size))=some (some (.agg (Array.replicate 256 (.bool false))),256):=by kernel_rfl
theorem rh(s:ByteArray)(c:Int)(w:World):
  Calls prog 354 #[.string s,.int .u8 c] w fun e w'=>e= .returned (.int .i64 (Lib.indexByte s.data.toList c.toNat.toUInt8))/\w'=w:=Any.strings_IndexByte {tj with} s c w
theorem pa(c:Int)(w:World):
  Calls prog 354 #[.string ByteArray.empty,.int .u8 c] w fun e w'=>e= .returned (.int .i64 (-1))/\w'=w:=rh ByteArray.empty c w
theorem o9(s:ByteArray)(r:Int)(w:World)(h0:0<=r)(h1:r<128):
  Calls prog 301 #[.string s,.int .i32 r] w fun e w'=>e= .returned (.int .i64 (Lib.indexByte s.data.toList r.toNat.toUInt8))/\w'=w:=Any.strings_IndexRune_ascii {tj with} s r w h0 h1
theorem ri(s chars:ByteArray)(w:World)(h2:2<=chars.size)(h8:8<s.size)(hs:s.size<4294967281)(hcs:chars.size<4294967281)(hac:∀(j:Nat) b,chars.data.toList[j]? =some b->b.toNat<128):
  Calls prog 233 #[.string s,.string chars] w fun e w'=>e= .returned (.int .i64 (Lib.indexAny s.data.toList chars.data.toList))/\Below w.heap.size w w':=by
 refine(Any.strings_IndexAny_long tj (zero_of_info Be).1 (zero_of_info Be).2 s chars w h2 h8 hs hcs hac).mono fun e w' ⟨h1,h2⟩=>⟨h1,?_⟩;rw[h2];exact((aq _ _).alloc (ac _) _).alloc (by simp) _
theorem rf(c:Nat)(w:World)(hv:Utf8.valid c=true)(hc:128<=c)(hn:c≠65533)(h2:(Utf8.encode c).size=2):
  Calls prog 301 #[.string ⟨#[43,35]⟩,.int .i32 c] w fun e w'=>e= .returned (.int .i64 (-1))/\Below w.heap.size w w':=by
 obtain⟨-,-,hlast⟩:=encode_facts c hv (by omega);obtain⟨rs,hrs⟩:∃rs,Utf8.encode c=rs:=⟨_,rfl⟩;rw[hrs]at hlast h2
 replace hlast:=hlast (by omega)
 obtain⟨x,hx⟩:∃x,rs[rs.size- 1]'(by omega)=x:=⟨_,rfl⟩;rw[hx]at hlast;have hx1:rs[1]'(by omega)=x:=by rw[<-hx];simp[h2]
 have hne:((((⟨#[43,35]⟩:ByteArray)[1]'(by decide)).toNat:Int) != (x.toNat:Int))=true:=by
  rw[show((⟨#[43,35]⟩:ByteArray)[1]'(by decide))=35 from rfl];exact aA.2 (by simp;omega)
 clear hx hlast;have hsz:(1:Int)<(rs.size:Int):=by omega
 have HV:=aa hv;clear hv
 have d0:¬(c:Int)<128:=by omega
 have d1:((c:Int)==65533)=false:=ar.2 (by omega);clear hc hn;go_enter func301,ntmps301
 go_wp2_with fail
 refine(mj c _ HV.o).mono ?_;rintro e w1 ⟨rfl,rfl⟩;go_wp2
 go_step3
 go_wp2;refine wp_loop_rounds 1 ?_;rw[GD];go_wp2
 go_step3
 go_wp2
 go_quiet (fail)
 clear hne;have hw2:IntKind.i64.wrap 2=2:=by decide
 go_wp2
 go_quiet (first| (go_at_call 354;exact(pa _ _).mono fun e w' h=>⟨h.1,_,h.2⟩))
 go_wp2;rw[Exit.noGoto_ret];go_wp2;rw[Exit.noGoto_ret];go_wp2;go_ret;exact⟨rfl,aV (aq _ _) _⟩
theorem qw(c:Nat)(w:World)(hv:Utf8.valid c=true)(hc:128<=c)(hn:c≠65533)(h2:2<(Utf8.encode c).size)(h4:(Utf8.encode c).size<=4):
  Calls prog 301 #[.string ⟨#[43,35]⟩,.int .i32 c] w fun e w'=>e= .returned (.int .i64 (-1))/\Below w.heap.size w w':=by
 obtain⟨rs,hrs⟩:∃rs,Utf8.encode c=rs:=⟨_,rfl⟩;rw[hrs]at h2 h4;obtain⟨l,hl⟩:∃l:Int,(rs.size:Int) - 1=l:=⟨_,rfl⟩;have hw:IntKind.i64.wrap l=l:=by rw[aQ];omega
 have hlt:decide (l<2)=false:=ah (by omega);have HV:=aa hv;clear hv
 have d0:¬(c:Int)<128:=by omega
 have d1:((c:Int)==65533)=false:=ar.2 (by omega);clear hc hn h2 h4;go_enter func301,ntmps301
 go_wp2_with fail
 refine(mj c _ HV.o).mono ?_;rintro e w1 ⟨rfl,rfl⟩;go_wp2
 go_step3
 go_wp2;refine wp_loop_rounds 1 ?_;rw[GD];go_wp2;rw[Exit.noGoto_ret];go_wp2;go_ret;exact⟨rfl,aq _ _⟩
theorem rg(w:World):
  Calls prog 301 #[.string ⟨#[43,35]⟩,.int .i32 65533] w fun e w'=>e= .returned (.int .i64 (-1))/\Below w.heap.size w w':=by
 go_enter func301,ntmps301;go_wp2
 go_loopw [5,6] (fun _ _ wr=>∃pos:Nat,pos<=2/\wr.heap[w.heap.size]? =some (.stringIter ⟨#[43,35]⟩ pos)/\Below w.heap.size w wr) (fun _ _ wr=>2- wr.iterPos w.heap.size)
 case atStart=>exact⟨0,by omega,World.iter_heap w _ 0,(aq _ _).alloc (ac _) _⟩
 case round=>
  obtain⟨pos,hp,hit,hbel⟩:=hrel;have HIT:=aa hit;have hit2:=Lib.iterAt_heap wr w.heap.size ⟨#[43,35]⟩ pos (pos+1) hit;have hbel2:=Lib.below_iterAt hbel (k:=w.heap.size) (ac _) ⟨#[43,35]⟩ (pos+1);have HIT2:=aa hit2;clear hit2
  by_cases h2:pos<2
  ·have hd:∃c:Nat,Utf8.decode ⟨#[43,35]⟩ pos=(c,1)/\((c:Int)==65533)=false:=by
    obtain rfl| rfl:pos=0\/pos=1:=by omega
    ·exact⟨43,by decide+kernel,rfl⟩
    ·exact⟨35,by decide+kernel,rfl⟩
   obtain⟨c,hdc,hcb⟩:=hd;have hnx:∀ty,(Instr.next (.pointer (some ⟨w.heap.size,0,none⟩)) true ty).run prog wr=_:=fun ty=>Lib.run_next_any_at wr w.heap.size ⟨#[43,35]⟩ pos ty hit h2;rw[hdc]at hnx;simp only at hnx;generalize wr.iterAt w.heap.size ⟨#[43,35]⟩ (pos+1)=w2 at*;have HP:=aa h2;clear hit h2 hdc;go_wp2
   go_roundw
   case rel=>exact⟨pos+1,by have:=HP.o;omega,HIT2.o,hbel2⟩
   case measure=>
    have:=HP.o;simp only[World.iterPos,HIT2.o,HIT.o];omega
  ·have hnx:∀ty,(Instr.next (.pointer (some ⟨w.heap.size,0,none⟩)) true ty).run prog wr=_:=fun ty=>Lib.run_next_end_at wr w.heap.size ⟨#[43,35]⟩ pos ty hit h2;clear hit;go_wp2;go_ret;exact⟨rfl,hbel⟩
theorem ms(c:Nat)(w:World)(hv:c<128\/(128<=c/\Utf8.valid c=true)):
  Calls prog 301 #[.string ⟨#[43,35]⟩,.int .i32 c] w fun e w'=>e= .returned (.int .i64 (if c=43 then 0 else if c=35 then 1 else -1))/\Below w.heap.size w w':=by
 rcases hv with h| ⟨h,hv⟩
 ·refine(o9 _ c w (by omega) (by omega)).mono fun e w' h1=>?_;obtain⟨he,rfl⟩:=h1;refine⟨?_,aq _ _⟩;rw[he];have:∀d:Fin 128,Lib.indexByte [43,35] ((d.val:Int).toNat.toUInt8)=(if d.val=43 then 0 else if d.val=35 then 1 else -1):=by decide+kernel
  exact congrArg (fun i=>Ending.returned (Value.int .i64 i)) (this ⟨c,h⟩)
 ·rw[ae (by omega),ae (by omega)]
  by_cases hb:c=65533
  ·subst hb;exact rg w
  ·obtain⟨h2,h4,-⟩:=encode_facts c hv (by omega)
   by_cases hs:(Utf8.encode c).size=2
   ·exact rf c w hv h hb hs
   ·exact qw c w hv h hb (by omega) h4
theorem tw(s:ByteArray)(pos:Nat):(Utf8.decode s pos=((s.get! pos).toNat,1)/\(s.get! pos).toNat<128)\/
  (128<=(Utf8.decode s pos).1/\Utf8.valid (Utf8.decode s pos).1=true/\∀j,j<(Utf8.decode s pos).2->128<=(s.get! (pos+j)).toNat):=by
 rw[Lib.decode_at];have h0:=UInt8.toNat_lt (s.get! pos);have hj:∀j,j=0\/j=1\/j=2\/j=3\/4<=j:=by omega
 have j0:(s.get! (pos+0))=s.get! pos:=rfl;generalize s.size- pos=n;rcases Lib.decodeN_shape n (s.get! pos).toNat (s.get! (pos+1)).toNat (s.get! (pos+2)).toNat (s.get! (pos+3)).toNat with ⟨h1,h2⟩ | ⟨h1,h2,h4,h5,h6⟩ | ⟨h1,h2,h4,h5,h6,h7,h8⟩ | ⟨h1,h2,h4,h5,h6,h7,h8,h9⟩ | h1
 ·exact .inl ⟨h2,h1⟩
 ·rw[h6];refine .inr ⟨h5,?_,?_⟩
  ·simp[Utf8.valid];omega
  ·intro j hj2;obtain rfl| rfl:j=0\/j=1:=by simp only at hj2;omega
   ·rw[j0];omega
   ·omega
 ·rw[h8];refine .inr ⟨by simp only;omega,?_,?_⟩
  ·simp[Utf8.valid];omega
  ·intro j hj2;obtain rfl| rfl| rfl:j=0\/j=1\/j=2:=by simp only at hj2;omega
   ·rw[j0];omega
   ·omega
   ·omega
 ·rw[h9];refine .inr ⟨by simp only;omega,?_,?_⟩
  ·simp[Utf8.valid];omega
  ·intro j hj2;obtain rfl| rfl| rfl| rfl:j=0\/j=1\/j=2\/j=3:=by simp only at hj2;omega
   ·rw[j0];omega
   ·omega
   ·omega
   ·omega
 ·by_cases hb:(s.get! pos).toNat<128
  ·left
   refine⟨?_,hb⟩;unfold Lib.decodeN;rw[if_pos hb]
  ·rw[h1];refine .inr ⟨by decide,by decide,?_⟩;intro j hj2;obtain rfl:j=0:=by simp only at hj2;omega
   rw[j0];omega
end Go.Proofs.YtbdgkkmbnahgiaaGreatDoor
namespace Go.Proofs.YtbdgkkmbnahgiaaGreatDoor
open Go.RowKit Go.Shelf
open Go.Proofs.Tryz
def im(b:UInt8):Bool:=b==43 || b==35
def mg(s:ByteArray):Bool:=(ls s).any im
theorem lf(b:UInt8):im b=decide (b.toNat=43\/b.toNat=35):=by
 unfold im;rw[eG];simp[<-UInt8.toNat_inj]
theorem sF(b:UInt8)(h:128<=b.toNat):im b=false:=by
 rw[lf];exact ah (by omega)
theorem Cz(s:ByteArray)(i:Nat)(h:i<s.size):(ls s)[i]'(by rw[aN];exact h)=s.get! i:=by
 rw[uY s i h];simp[ByteArray.get!,getElem!_pos,h];rfl
theorem AA(s:ByteArray)(h:∀i,i<s.size->im (s.get! i)=false):mg s=false:=by
 unfold mg;rw[List.any_eq_false];intro b hb;obtain⟨i,hi,rfl⟩:=List.getElem_of_mem hb;rw[aN]at hi;rw[Cz s i hi,h i hi]
 decide
theorem Dw(s:ByteArray)(i:Nat)(hi:i<s.size)(h:im (s.get! i)=true):mg s=true:=by
 unfold mg;rw[List.any_eq_true];exact⟨_,iY (by rw[aN];exact hi),by rw[Cz s i hi];exact h⟩
theorem xq(n b0 b1 b2 b3:Nat)(hn:1<=n):(Lib.decodeN n b0 b1 b2 b3).2<=n:=by
 unfold Lib.decodeN
 repeat' split
 all_goals (simp only;omega)
theorem yd{s:ByteArray}{pos c wd:Nat}(h:((c,wd)=((s.get! pos).toNat,1)/\(s.get! pos).toNat<128)\/(128<=c/\Utf8.valid c=true/\∀j,j<wd->128<=(s.get! (pos+j)).toNat)):c<128\/(128<=c/\Utf8.valid c=true):=by
 rcases h with ⟨h1,h2⟩ | ⟨h1,h2,-⟩
 ·simp only[bG]at h1;exact .inl (by omega)
 ·exact .inr ⟨h1,h2⟩
theorem qx(s:ByteArray)(w:World)(h8:s.size<=8):
  Calls prog 233 #[.string s,.string ⟨#[43,35]⟩] w fun e w'=>∃i:Int,e= .returned (.int .i64 i)/\decide (0<=i)=mg s/\Below w.heap.size w w':=by
 have h8z:decide ((8:Int)<(s.size:Int))=false:=ah (by omega);have HS:=aa h8;clear h8
 go_enter func233,ntmps233
 go_wp2_with fail
 refine(show Calls prog 302 #[.int .i64 s.size] w fun e w'=>e= .returned (.bool false)/\w'=w from by
  go_enter func302,ntmps302;go_wp2;go_ret;exact⟨rfl,rfl⟩).mono ?_
 rintro e w' ⟨rfl,hw⟩;subst hw;go_wp2
 go_loopw [9,10] (fun _ _ wr=>∃pos:Nat,pos<=s.size/\(∀i,i<pos->im (s.get! i)=false)/\wr.heap[w'.heap.size]? =some (.stringIter s pos)/\Below w'.heap.size w' wr) (fun _ _ wr=>s.size- wr.iterPos w'.heap.size)
 case atStart=>exact⟨0,by omega,fun i h=>by omega,World.iter_heap w' s 0,(aq _ _).alloc (ac _) _⟩
 case round=>
  obtain⟨pos,hle,hno,hit,hbel⟩:=hrel;have HN:=aa hno;have HL:=aa hle;clear hno hle
  have hz:w'.heap.size<wr.heap.size:=(cZ.1 hit).1;have HIT:=aa hit
  by_cases hp:pos<s.size
  ·have hnx:∀ty,(Instr.next (.pointer (some ⟨w'.heap.size,0,none⟩)) true ty).run prog wr=_:=fun ty=>Lib.run_next_any_at wr w'.heap.size s pos ty hit hp;have hwd:=Lib.decode_width_pos s pos hp;have hd1:=decode_le s pos;have hwl:pos+(Utf8.decode s pos).2<=s.size:=by rw[Lib.decode_at];have:=xq (s.size- pos) (s.get! pos).toNat (s.get! (pos+1)).toNat (s.get! (pos+2)).toNat (s.get! (pos+3)).toNat (by omega);omega
   have hit2:=Lib.iterAt_heap wr w'.heap.size s pos (pos+(Utf8.decode s pos).2) hit;have hbel2:=Lib.below_iterAt hbel (k:=w'.heap.size) (ac _) s (pos+(Utf8.decode s pos).2);have hz2:w'.heap.size<(wr.iterAt w'.heap.size s (pos+(Utf8.decode s pos).2)).heap.size:=by rw[Lib.iterAt_size];omega
   have HIT2:=aa hit2;have HB2:=aa hbel2
   have HC:=aa (tw s pos);clear hit hit2 hbel2;generalize hD:Utf8.decode s pos=D at*;have HD:=aa hD;clear hD
   obtain⟨c,wd⟩:=D;generalize wr.iterAt w'.heap.size s (pos+wd)=w2 at*;simp only at hwd hd1 HC hnx hwl;have HP:=aa hp;have HW:=aa hwd;have HWL:=aa hwl
   clear hp hwd hwl
   by_cases hc:c=43\/c=35
   ·have hany:mg s=true:=by
     rcases HC.o with ⟨h1,h2⟩ | ⟨h1,h2⟩
     ·refine Dw s pos HP.o ?_;rw[lf];simp only[bG]at h1;exact au (by omega)
     ·omega
    have HA:=aa hany;clear hany
    have hi:∃i:Int,(if c=43 then(0:Int)else if c=35 then 1 else -1)=i/\decide (0<=i)=true:=by
     rcases hc with rfl| rfl
     ·exact⟨0,rfl,rfl⟩
     ·exact⟨1,rfl,rfl⟩
    obtain⟨i,hi,hi0⟩:=hi;have HI:=aa hi;clear hi hc
    go_wp2_with fail
    refine(ms c _ (yd HC.o)).mono ?_;rintro e w3 ⟨rfl,hb3⟩;rw[HI.o];have HB3:=aa hb3;clear hb3
    go_wp2;go_ret;exact⟨pos,rfl,by rw[HA.o];exact au (by omega),HB2.o.trans (HB3.o.mono HB2.o.size)⟩
   ·have HX:=aa hc;clear hc
    go_wp2_with fail
    refine(ms c _ (yd HC.o)).mono ?_;rintro e w3 ⟨rfl,hb3⟩;rw[ae (fun e=>HX.o (.inl e)),ae (fun e=>HX.o (.inr e))];have hit3:w3.heap[w'.heap.size]? =some (.stringIter s (pos+wd)):=(hb3.block _ hz2).trans HIT2.o;have HB3:=aa (HB2.o.trans (hb3.mono HB2.o.size));clear hb3
    have HIT3:=aa hit3;clear hit3
    go_wp2
    go_roundw
    case rel=>
     refine⟨pos+wd,HWL.o,?_,HIT3.o,HB3.o⟩;intro i hi
     by_cases hip:i<pos
     ·exact HN.o i hip
     ·rcases HC.o with ⟨h1,h2⟩ | ⟨h1,h2,h3⟩
      ·simp only[bG]at h1;obtain rfl:i=pos:=by omega
       rw[lf];have:=HX.o;exact ah (by omega)
      ·have:=h3 (i- pos) (by omega);rw[show pos+(i- pos)=i by omega]at this;exact sF _ this
    case measure=>
     have:=HW.o;have:=HWL.o;have:=HP.o
     simp only[World.iterPos,HIT3.o,HIT.o];omega
  ·have hnx:∀ty,(Instr.next (.pointer (some ⟨w'.heap.size,0,none⟩)) true ty).run prog wr=_:=fun ty=>Lib.run_next_end_at wr w'.heap.size s pos ty hit hp;have HF:Hid (mg s=false):=aa (AA s fun i hi=>HN.o i (by omega));clear hit;go_wp2;go_ret;exact⟨-1,rfl,by rw[HF.o];rfl,hbel⟩
end Go.Proofs.YtbdgkkmbnahgiaaGreatDoor
namespace Go.Proofs.YtbdgkkmbnahgiaaGreatDoor
open Go.RowKit Go.Shelf
open Go.Proofs.Tryz
theorem nc:∀l:List UInt8,decide (0<=Lib.indexAny l [43,35])=l.any im
 | []=>rfl
 | b :: l=>by
   have ih:=nc l;have hge:=Lib.indexAny_ge [43,35] l;rw[Lib.indexAny,List.any_cons];have hc:([43,35]:List UInt8).contains b=im b:=by simp[im];rfl
   rw[hc];cases hs:im b
   ·rw[ae (by simp),nB,<-ih]
    by_cases h:Lib.indexAny l [43,35]= -1
    ·rw[h];rfl
    ·rw[ae (by simpa using h)];rw[eb];omega
   ·simp
def jY(s:ByteArray):Bool:=decide (s.size≠0)&&bN s
def fp(s:ByteArray):Bool:=jY s&& !mg s
theorem kW(s:ByteArray)(w:World)(hs:s.size<=65535):
  Calls prog 173 #[.string s,.string ⟨#[43,35]⟩] w fun e w'=>e= .returned (.bool (mg s))/\Below w.heap.size w w':=by
 have c:Calls prog 233 #[.string s,.string ⟨#[43,35]⟩] w fun e w'=>∃i:Int,e= .returned (.int .i64 i)/\decide (0<=i)=mg s/\Below w.heap.size w w':=by
  by_cases h8:s.size<=8
  ·exact qx s w h8
  ·refine(ri s ⟨#[43,35]⟩ w (by decide) (by omega) (by omega) (by decide) ?_).mono fun e w' h=>⟨_,h.1,nc _,h.2⟩;intro j b hb;have:b∈[(43:UInt8),35]:=iL hb;simp at this;rcases this with rfl| rfl<;>decide
 go_enter func173,ntmps173
 go_wp2_with fail
 refine c.mono ?_;rintro e w1 ⟨i,rfl,hi,hb⟩;have HB:=aa hb;clear hb
 go_wp2;go_ret;exact⟨by rw[<-hi];rfl,HB.o⟩
theorem rH(s:ByteArray)(w:World)(hs:s.size<=4611686018427387904):
  Calls prog 118 #[.string s] w fun e w'=>e= .returned (.bool (jY s))/\Below w.heap.size w w':=by
 by_cases h:s.size=0
 ·have he:s.toList.isEmpty=true:=by rw[Lib.toList_data,List.length_eq_zero_iff.1 ((Lib.size_eq s).symm.trans h)];rfl
  have HF:Hid (jY s=false):=aa (by simp[jY,h]);clear h hs;go_enter func118,ntmps118;go_wp2;go_ret;exact⟨by rw[HF.o];rfl,aq _ _⟩
 ·have he:s.toList.isEmpty=false:=by
   rw[Lib.toList_data];cases hl:s.data.toList with
   | nil=>exact absurd ((Lib.size_eq s).trans (by rw[hl];rfl)) h
   | cons _ _=>rfl
  have HF:Hid (jY s=bN s):=aa (by simp[jY,h]);have HS:=aa hs;clear h hs;go_enter func118,ntmps118
  go_wp2_with fail
  refine(fk s _ HS.o).mono ?_;rintro e w1 ⟨rfl,hb⟩;have HB:=aa hb;clear hb
  go_wp2;go_ret;exact⟨by rw[HF.o];rfl,HB.o⟩
theorem gL{s:ByteArray}(h:bN s=true):s.size<=65535:=by
 unfold bN at h;simp at h;exact h.1
theorem lw(s:ByteArray)(w:World)(hs:s.size<=4611686018427387904):
  Calls prog 158 #[.string s] w fun e w'=>e= .returned (.bool (fp s))/\Below w.heap.size w w':=by
 have HS:=aa hs;clear hs
 go_enter func158,ntmps158
 go_wp2_with fail
 refine(rH s _ HS.o).mono ?_;rintro e w1 ⟨rfl,hb⟩;have HB:=aa hb;clear hb
 cases ht:jY s
 ·have HF:Hid (fp s=false):=aa (by simp[fp,ht]);clear ht;go_wp2;go_ret;exact⟨by rw[HF.o];rfl,HB.o⟩
 ·have HF:Hid (fp s= !mg s):=aa (by simp[fp,ht]);have HV:Hid (s.size<=65535):=aa (gL (by simp[jY]at ht;exact ht.2));clear ht
  go_wp2_with fail
  refine(kW s _ HV.o).mono ?_;rintro e w2 ⟨rfl,hb⟩;have HB:=aa (HB.o.trans (hb.mono HB.o.size));clear hb
  go_wp2;go_ret;exact⟨by rw[HF.o];rfl,HB.o⟩
end Go.Proofs.YtbdgkkmbnahgiaaGreatDoor
namespace Go.Proofs.YtbdgkkmbnahgiaaGreatDoor
open Go.RowKit Go.Proofs.Tryz
abbrev RT:TypeId:=179
def Rdr(w:World)(g:Nat)(n k:Nat)(d b:Bool):Prop:=Bk w g RT #[.int .i64 n,.int .i64 k,.bool d,.bool b]
theorem wO(w:World):
  Calls prog 163 #[] w fun e w'=>e= .returned (.pointer (some ⟨w.heap.size,0,none⟩))/\Rdr w' w.heap.size 0 0 false false/\Below w.heap.size w w':=by
 go_enter func163,ntmps163;go_wp2;go_ret;exact⟨rfl,Bk.fresh _ _ _,(aq _ _).alloc (ac _) _⟩
def pushN(n k:Nat)(b:UInt8):Nat:=n+b.toNat% 128*2^ (7*k)
def xK(g q k:Nat)(d b:Bool)(x:Int)(w:World)(e:Ending)(w':World):Prop:=e= .returned (.tuple #[.bool d,.int .i64 x])/\Rdr w' g q k d b/\w.grownBy w' (some g)
theorem wC{w:World}{g n k:Nat}(h:Rdr w g n k false false)(q:Nat)(x y:Int)(hx:x=q)(hy:y=(k+1:Nat))(i:Nat)(z d b:Bool)(hz:(#[.int .i64 (q:Int),.int .i64 ((k+1:Nat):Int),.bool false,.bool false]:Array Value).setIfInBounds i (.bool z)= #[.int .i64 q,.int .i64 ((k+1:Nat):Int),.bool d,.bool b]):
  Rdr (((w.setCell ⟨g,0,none⟩ (.int .i64 x)).setCell ⟨g,1,none⟩ (.int .i64 y)).setCell ⟨g,i,none⟩ (.bool z)).drew g q (k+1) d b:=by
 subst hx hy;exact((Bk.upd h 0 _ rfl).upd 1 _ rfl).upd i _ hz
theorem sN(w:World)(g i j k:Nat)(x y z:Value):w.grownBy (((w.setCell ⟨g,i,none⟩ x).setCell ⟨g,j,none⟩ y).setCell ⟨g,k,none⟩ z).drew (some g):=
 nW (((cP _ _ _ _).trans (cP _ _ _ _)).trans (cP _ _ _ _)) 1
theorem wa(a b:UInt8):bits BinOp.and IntKind.u8 (a.toNat:Int) (b.toNat:Int)=((a&&& b).toNat:Int):=by
 have h:∀x:UInt8,(BitVec.ofInt 8 (x.toNat:Int)).toNat=x.toNat:=fun x=>by
  rw[BitVec.ofInt_natCast,BitVec.toNat_ofNat];exact Nat.mod_eq_of_lt x.toNat_lt
 show IntKind.u8.wrap ((BitVec.ofInt 8 (a.toNat:Int)&&& BitVec.ofInt 8 (b.toNat:Int)).toNat:Int)=_;rw[BitVec.toNat_and,h,h,UInt8.toNat_and];have h2:=(a&&& b).toNat_lt;rw[UInt8.toNat_and]at h2;simp only[IntKind.wrap,IntKind.bits,IntKind.signed];simp;omega
theorem FG(b:UInt8):bits BinOp.and IntKind.u8 (b.toNat:Int) 127=((b.toNat% 128:Nat):Int):=by
 have h:=wa b 127;rw[UInt8.toNat_and]at h;rw[show(127:UInt8).toNat=2^ 7- 1 by decide,kC]at h;exact h
theorem Fl(b:UInt8):bits BinOp.and IntKind.u8 (b.toNat:Int) 128=if 128<=b.toNat then 128 else 0:=by
 have h:∀b:Fin 256,((UInt8.ofNat b.1&&& 128).toNat:Int)=if 128<=(UInt8.ofNat b.1).toNat then 128 else 0:=by decide+kernel
 have h1:=wa b 128;have h2:=h ⟨b.toNat,b.toNat_lt⟩;simp only[UInt8.ofNat_toNat]at h2;exact h1.trans h2
theorem rT(g n k:Nat)(b:UInt8)(w:World)(h:Rdr w g n k false false)(hk:k<=3)(hn:n<2^ (7*k))(hb:128<=b.toNat):
  Calls prog 164 #[.pointer (some ⟨g,0,none⟩),.int .u8 b.toNat] w (xK g (pushN n k b) (k+1) false (k==3) (if k=3 then 5 else 0) w):=by
 obtain⟨⟨c0,c1,c2,c3⟩,f0,f1,f2,f3⟩:=Bk.four h;have HB:=aa h;have hand:=FG b;have hand2:bits BinOp.and IntKind.u8 (b.toNat:Int) 128=128:=by rw[Fl,if_pos hb]
 have hm:b.toNat% 128<128:=iI _ (by omega);have HP:Hid (pushN n k b=n+b.toNat% 128*2^ (7*k)):=rfl;generalize b.toNat% 128=m at*;generalize pushN n k b=q at*;clear h;obtain rfl| rfl| rfl| rfl:k=0\/k=1\/k=2\/k=3:=by omega
 all_goals
  first
  | (exfalso;simp at*;done)
  | (simp only[Nat.reduceMul,Nat.reducePow]at hn HP
     go_enter func164,ntmps164;go_wp2
     go_region
     all_goals
      go_wp2;go_ret2;have:=HP.o;refine⟨rfl,?_,sN _ _ _ _ _ _ _ _⟩;exact wC HB.o q _ _ (by omega) (by omega) 3 _ _ _ rfl)
theorem zw(g n k:Nat)(b:UInt8)(w:World)(h:Rdr w g n k false false)(hk:k<=3)(hn:n<2^ (7*k))(hb:b.toNat=0)(hk0:0<k):
  Calls prog 164 #[.pointer (some ⟨g,0,none⟩),.int .u8 b.toNat] w (xK g (pushN n k b) (k+1) false true 5 w):=by
 obtain⟨⟨c0,c1,c2,c3⟩,f0,f1,f2,f3⟩:=Bk.four h;have HB:=aa h;have hand:=FG b;have hand2:bits BinOp.and IntKind.u8 (b.toNat:Int) 128=0:=by rw[Fl,ae (by omega)]
 have hz:((b.toNat:Int)==0)=true:=by rw[hb];rfl
 have hm:b.toNat% 128<128:=iI _ (by omega);have HP:Hid (pushN n k b=n+b.toNat% 128*2^ (7*k)):=rfl;generalize b.toNat% 128=m at*;generalize pushN n k b=q at*;clear h hb;obtain rfl| rfl| rfl| rfl:k=0\/k=1\/k=2\/k=3:=by omega
 all_goals
  first
  | (exfalso;simp at*;done)
  | (simp only[Nat.reduceMul,Nat.reducePow]at hn HP
     go_enter func164,ntmps164;go_wp2
     go_region
     all_goals
      go_wp2;go_ret2;have:=HP.o;refine⟨rfl,?_,sN _ _ _ _ _ _ _ _⟩;exact wC HB.o q _ _ (by omega) (by omega) 3 _ _ _ rfl)
theorem zx(g n k:Nat)(b:UInt8)(w:World)(h:Rdr w g n k false false)(hk:k<=3)(hn:n<2^ (7*k))(hb:b.toNat<128)(hk0:b.toNat=0->k=0):
  Calls prog 164 #[.pointer (some ⟨g,0,none⟩),.int .u8 b.toNat] w (xK g (pushN n k b) (k+1) true false 0 w):=by
 obtain⟨⟨c0,c1,c2,c3⟩,f0,f1,f2,f3⟩:=Bk.four h;have HB:=aa h;have hand:=FG b;have hand2:bits BinOp.and IntKind.u8 (b.toNat:Int) 128=0:=by rw[Fl,ae (by omega)]
 obtain⟨z,hz⟩:∃z,((b.toNat:Int)==0)=z:=⟨_,rfl⟩;have hzk:z=true->k=0:=fun h=>hk0 (by rw[h]at hz;simpa using hz);have hm:b.toNat% 128<128:=iI _ (by omega);have HP:Hid (pushN n k b=n+b.toNat% 128*2^ (7*k)):=rfl;generalize b.toNat% 128=m at*;generalize pushN n k b=q at*;clear h hk0;have hc:(z=true/\k=0)\/(z=false/\(k=0\/k=1\/k=2\/k=3)):=by cases z<;>simp_all<;>omega
 clear hzk;obtain⟨rfl,rfl⟩ | ⟨rfl,rfl| rfl| rfl| rfl⟩:=hc
 all_goals
  first
  | (exfalso;simp at*;done)
  | (simp only[Nat.reduceMul,Nat.reducePow]at hn HP
     go_enter func164,ntmps164;go_wp2
     go_region
     all_goals
      go_wp2;go_ret2;have:=HP.o;refine⟨rfl,?_,sN _ _ _ _ _ _ _ _⟩;exact wC HB.o q _ _ (by omega) (by omega) 2 _ _ _ rfl)
def rv:List UInt8->Nat->Nat->Nat×Nat×Int
 | [],_,_=>(0,0,3)
 | b :: l,n,k=>
   if 128<=b.toNat then(if k=3 then(0,0,5)else rv l (pushN n k b) (k+1))
   else if b.toNat=0/\0<k then(0,0,5)else(pushN n k b,k+1,0)
def bm(l:List UInt8):Nat×Nat×Int:=rv l 0 0
theorem uN{n k:Nat}(b:UInt8)(h:n<2^ (7*k)):pushN n k b<2^ (7*(k+1)):=by
 unfold pushN;have h1:b.toNat% 128<128:=iI _ (by omega);have h2:2^ (7*(k+1))=128*2^ (7*k):=by rw[Nat.mul_add,Nat.pow_add,eV]
 rw[h2];have h3:b.toNat% 128*2^ (7*k)<=127*2^ (7*k):=iH _ (by omega);omega
theorem DQ{s:ByteArray}{k:Nat}(h:k<s.size)(n:Nat):rv ((ls s).drop k) n k=rv (s[k] :: (ls s).drop (k+1)) n k:=by
 rw[bQ (by rw[aN];exact h),uY s k h]
theorem nO(s:ByteArray)(w:World)(hs:s.size<=4611686018427387904):
  Calls prog 110 #[.string s] w fun e w'=>e= .returned (.tuple #[.int .i64 (bm (ls s)).1,.int .i64 (bm (ls s)).2.1,.int .i64 (bm (ls s)).2.2])/\Below w.heap.size w w':=by
 go_enter func110,ntmps110
 go_wp2_with fail
 refine(wO _).mono ?_;rintro e w1 ⟨rfl,hr0,hb1⟩;have hlt1:w.heap.size<w1.heap.size:=Bk.lt hr0;go_wp2
 go_loopw [12] (fun i wr=>∃k n:Nat,k<=s.size/\k<=3/\i= .int .i64 k/\n<2^ (7*k)/\Rdr wr w.heap.size n k false false/\bm (ls s)=rv ((ls s).drop k) n k/\Below w.heap.size w wr) (fun i _=>s.size- (intOf i).toNat)
 case atStart=>exact⟨0,0,by omega,by omega,rfl,by simp,hr0,rfl,hb1⟩
 case round=>
  obtain⟨k,n,hk,hk3,rfl,hn,hr,hv,hbel⟩:=hrel;have HR:=aa hr;have HV:=aa hv;have HN:=aa hn
  have hz:=Bk.lt hr;clear hr hv hn hr0
  by_cases hlt:k<s.size
  ·have HC:=aa (DQ hlt n);have hidx:(k:Int)<(s.size:Int):=by omega
   obtain⟨b,hb⟩:∃b,b=s[k]:=⟨_,rfl⟩;have HBb:=aa hb;rw[<-hb]at HC;clear hb
   by_cases h128:128<=b.toNat
   ·by_cases hk4:k=3
    ·have hfin:bm (ls s)=(0,0,5):=by rw[HV.o,HC.o];simp[rv,h128,hk4]
     have HF:=aa hfin;have HK4:=aa hk4;clear hfin hk4
     go_wp2_with fail
     rw[<-HBb.o];refine(rT w.heap.size n k b _ HR.o hk3 HN.o h128).mono ?_;rintro e w2 ⟨rfl,hr2,hm2⟩;rw[if_pos HK4.o];go_wp2;go_ret3;exact⟨by rw[HF.o];rfl,dw hbel hm2 (by omega) (ac _)⟩
    ·have hfin:bm (ls s)=rv ((ls s).drop (k+1)) (pushN n k b) (k+1):=by rw[HV.o,HC.o];simp[rv,h128,hk4]
     have HF:=aa hfin;clear hfin
     go_wp2_with fail
     rw[<-HBb.o];refine(rT w.heap.size n k b _ HR.o hk3 HN.o h128).mono ?_;rintro e w2 ⟨rfl,hr2,hm2⟩;rw[ae hk4];have hr2':Rdr w2 w.heap.size (pushN n k b) (k+1) false false:=by
      have:(k==3)=false:=by simpa using hk4
      rwa[this]at hr2
     have R:=aa (And.intro hr2' (dw hbel hm2 (by omega) (ac _)));clear hr2 hr2' hm2;go_wp2
     go_roundw
     case rel=>exact⟨k+1,pushN n k b,by omega,by omega,by go_num,uN b HN.o,R.o.1,HF.o,R.o.2⟩
     case measure=>simp[intOf];omega
   ·by_cases h0:b.toNat=0/\0<k
    ·have hfin:bm (ls s)=(0,0,5):=by rw[HV.o,HC.o];simp[rv,h0]
     have HF:=aa hfin;clear hfin
     go_wp2_with fail
     rw[<-HBb.o];refine(zw w.heap.size n k b _ HR.o hk3 HN.o h0.1 h0.2).mono ?_;rintro e w2 ⟨rfl,hr2,hm2⟩;go_wp2;go_ret3;exact⟨by rw[HF.o];rfl,dw hbel hm2 (by omega) (ac _)⟩
    ·have hfin:bm (ls s)=(pushN n k b,k+1,0):=by rw[HV.o,HC.o];simp[rv,h128,h0]
     have HF:=aa hfin;clear hfin
     go_wp2_with fail
     rw[<-HBb.o];refine(zx w.heap.size n k b _ HR.o hk3 HN.o (by omega) (by omega)).mono ?_;rintro e w2 ⟨rfl,hr2,hm2⟩;obtain⟨⟨c0,c1,c2,c3⟩,_⟩:=Bk.four hr2;have hbel2:=dw hbel hm2 (by omega) (ac _);clear hr2 hm2;go_wp2
     go_quiet (fail)
     go_wp2;go_ret3;exact⟨by rw[HF.o];rfl,aV hbel2 _⟩
  ·obtain rfl:k=s.size:=by omega
   have hfin:bm (ls s)=(0,0,3):=by
    rw[HV.o,gD (by rw[aN];exact ac _)];rfl
   have HF:=aa hfin;clear hfin
   go_wp2;go_ret3;exact⟨by rw[HF.o];rfl,hbel⟩
def wT(n:Int):Bool:=decide (0<=n)&&decide (n<=268435455)
theorem qm(n:Int)(w:World):
  Calls prog 161 #[.int .i64 n] w fun e w'=>e= .returned (.bool (wT n))/\w=w':=by
 go_enter func161,ntmps161;go_wp2
 all_goals
  go_ret;refine⟨?_,rfl⟩
  (try simp[wT])<;>omega
def ig:Nat->Nat->List UInt8
 | 0,n=>[UInt8.ofNat n]
 | f+1,n=>if n<128 then [UInt8.ofNat n]else UInt8.ofNat (n% 128+128) :: ig f (n/ 128)
def eP(n:Nat):List UInt8:=ig 3 n
theorem tG(l:List UInt8):∀u∈bys l,u.oneCell'=true:=by
 intro u hu;obtain⟨c,_,rfl⟩:=jX.1 hu;rfl
theorem nu(l:List UInt8):(bys l).length=l.length:=by simp[bys]
theorem mO:∀(f n:Nat),(ig f n).length<=f+1
 | 0,n=>by simp[ig]
 | f+1,n=>by
   unfold ig;split
   ·simp
   ·have:=mO f (n/ 128);simp;omega
theorem Fv(n:Nat)(h:n<128):bits BinOp.or IntKind.u8 (n:Int) 128=((n+128:Nat):Int):=by
 have:∀i:Fin 128,bits BinOp.or IntKind.u8 ((i.1:Nat):Int) 128=((i.1+128:Nat):Int):=by decide+kernel
 exact this ⟨n,h⟩
theorem mP(n:Nat)(w:World)(hn:n<=268435455):
  Calls prog 106 #[.int .i64 n] w fun e w'=>e= .returned (.tuple #[.string ⟨(eP n).toArray⟩,.int .i64 0])/\Below w.heap.size w w':=by
 have hm:Hid (wT n=true):=by show _=_;simp[wT];omega
 go_enter func106,ntmps106
 go_wp2_with fail
 refine(qm _ _).mono ?_;rintro e w' ⟨rfl,rfl⟩;rw[hm.out];go_wp2
 go_loopw [0,4] (fun v o wr=>∃(m f:Nat) (pre:List UInt8),f<=3/\m<128^ (f+1)/\pre.length+f=3/\v= .int .i64 m/\eP n=pre++ig f m/\wr.ownsRow w.heap.size 5 1 o pre.length (bys pre)/\Below w.heap.size w wr) (fun v _ _=>(intOf v).toNat)
 case atStart=>exact⟨n,3,[],by omega,by simp;omega,rfl,rfl,rfl,dD _ _ _ _,aq _ _⟩
 case round=>
  obtain⟨m,f,pre,hf,hmf,hpf,rfl,hv,hown,hbel⟩:=hrel;have HV:=aa hv;have HO:=aa hown;have HP:=aa hpf;have HMF:=aa hmf
  have hpl:pre.length<=3:=by omega
  have hz:=hbel.size;have hm2:m<268435456:=by
   have:128^ (f+1)<=128^ 4:=df (by omega) (by omega);have h4:(128:Nat) ^ 4=268435456:=by decide
   omega
  clear hv hown hpf hmf hm
  by_cases hge:128<=m
  ·have hge':(128:Int)<=(m:Int):=by omega
   obtain⟨c,hc⟩:∃c,c=UInt8.ofNat (m% 128+128):=⟨_,rfl⟩;have hor:bits BinOp.or IntKind.u8 ((m:Int) % 128) 128=(c.toNat:Int):=by
    have h1:=Fv (m% 128) (iI _ (by omega));have h2:(c.toNat:Int)=((m% 128+128:Nat):Int):=by
     rw[hc,UInt8.toNat_ofNat'];have:=iI m (show 0<128 by omega);omega
    rw[h2,<-h1];simp
   have HCc:=aa hc;clear hc
   have HF:Hid (∃f',f=f'+1):=by
    refine⟨f- 1,?_⟩;rcases dh f with rfl| h
    ·have:=HMF.o;simp at this;omega
    ·omega
   go_wp2_with (at_builtin;refine kF _ rfl (.tmp 12) (.tmp 17) 80 rfl w.heap.size 5 (.int .u8 0) 1 1 underlying80 ku rfl (by decide) u4 _ _ rfl (HO.o.alloc _) _ _ 1 1 (bys [c]) rfl (Rd.lit _ _ _ rfl (ed _) rfl) (tG _) (by unfold maxLen;omega) (by omega) (by simp;omega) ?_;intro v' w3 hown3 hg3 hat3)
   have R:∃f',f=f'+1/\m/ 128<128^ (f'+1)/\(pre++[c]).length+f'=3/\eP n=(pre++[c])++ig f' (m/ 128)/\w3.ownsRow w.heap.size 5 1 v' (pre++[c]).length (bys (pre++[c]))/\Below w.heap.size w w3:=by
    obtain⟨f',rfl⟩:=HF.o;have h1:=HMF.o;have h2:=HP.o;refine⟨f',rfl,?_,by simp;omega,?_,?_,kz (hbel.alloc (by omega) _) hg3 (by simp;omega) (fun g hg=>(cX HO.o g hg).1)⟩
    ·rw[Nat.pow_succ]at h1;exact iJ (by rw[eV];exact h1)
    ·rw[HV.o,ig,ae (by omega),HCc.o];simp
    ·simpa [bys]using hown3
   have HR:=aa R;clear hown3 hg3 hat3 R;go_wp2
   go_roundw
   case rel=>
    obtain⟨f',_,h1,h2,h3,h4,h5⟩:=HR.o;exact⟨m/ 128,f',pre++[c],by omega,h1,h2,by simp,h3,h4,h5⟩
   case measure=>simp[intOf];omega
  ·have hlt:(m:Int)<128:=by omega
   obtain⟨c,hc⟩:∃c,c=UInt8.ofNat m:=⟨_,rfl⟩;have hcm:c.toNat=m:=by rw[hc,UInt8.toNat_ofNat'];omega
   have hfin:eP n=pre++[c]:=by
    rw[HV.o,hc];cases f with
    | zero=>rfl
    | succ f=>rw[ig,if_pos (by omega)]
   have HFi:=aa hfin;clear hc hfin HV HMF;subst hcm
   go_wp2_with (at_builtin;refine kF _ rfl (.tmp 19) (.tmp 22) 80 rfl w.heap.size 5 (.int .u8 0) 1 1 underlying80 ku rfl (by decide) u4 _ _ rfl (HO.o.alloc _) _ _ 1 1 (bys [c]) rfl (Rd.lit _ _ _ rfl (ed _) rfl) (tG _) (by unfold maxLen;omega) (by omega) (by simp;omega) ?_;intro v' w3 hown3 hg3 hat3;have hbel3:=kz (hbel.alloc (by omega) _) hg3 (by simp;omega) (fun g hg=>(cX HO.o g hg).1);obtain⟨A,cp,rfl,_,hrd⟩:=jK hown3;have hrd':Rd w3 w3.heap.size 1 A (pre.length+1) (bys (pre++[c])):=(by simpa [bys]using hrd);have hconv:=ni (P:=prog) 80 9 5 underlying80 underlying5 underlying9 cp hrd')
   go_ret2;exact⟨by rw[HFi.o];rfl,hbel3⟩
theorem xZ:∀(f m n k:Nat) (rest:List UInt8),k+f<=3->m<128^ (f+1)->(0<k->0<m)->rv (ig f m++rest) n k=(n+m*2^ (7*k),k+(ig f m).length,0)
 | 0,m,n,k,rest,hk,hm,hp=>by
   have h1:m<128:=by simpa using hm
   have h2:(UInt8.ofNat m).toNat=m:=by rw[UInt8.toNat_ofNat'];omega
   show rv (UInt8.ofNat m :: rest) n k=_;rw[rv,h2,ae (by omega),ae (by omega)];unfold pushN;rw[h2,Nat.mod_eq_of_lt h1];rfl
 | f+1,m,n,k,rest,hk,hm,hp=>by
   by_cases h1:m<128
   ·have h2:(UInt8.ofNat m).toNat=m:=by rw[UInt8.toNat_ofNat'];omega
    rw[ig,if_pos h1];show rv (UInt8.ofNat m :: rest) n k=_;rw[rv,h2,ae (by omega),ae (by omega)];unfold pushN;rw[h2,Nat.mod_eq_of_lt h1];rfl
   ·have h2:(UInt8.ofNat (m% 128+128)).toNat=m% 128+128:=by rw[UInt8.toNat_ofNat'];omega
    rw[ig,ae h1];show rv (UInt8.ofNat (m% 128+128) :: (ig f (m/ 128)++rest)) n k=_;have hm':m/ 128<128^ (f+1):=by
     rw[Nat.pow_succ]at hm;exact iJ (by rw[eV];exact hm)
    rw[rv,h2,if_pos (by omega),ae (by omega),xZ f (m/ 128) _ (k+1) rest (by omega) hm' (fun _=>by omega)];unfold pushN;rw[h2,bM,show(m% 128+128) % 128=m% 128 by omega,show 7*(k+1)=7*k+7 by omega,Nat.pow_add];refine Prod.ext ?_ (Prod.ext ?_ rfl)
    ·show n+m% 128*2^ (7*k)+m/ 128*(2^ (7*k)*2^ 7)=n+m*2^ (7*k);have h3:=Nat.div_add_mod m 128;generalize 2^ (7*k)=X at*;generalize m/ 128=q at*;generalize m% 128=r at*;subst h3;rw[iK,show(2:Nat) ^ 7=128 by rfl,eV X 128,<-Nat.mul_assoc,eV q 128];omega
    ·show k+1+_=k+(_+1);omega
theorem wz(n:Nat)(hn:n<=268435455)(rest:List UInt8):bm (eP n++rest)=(n,(eP n).length,0):=by
 unfold bm eP;rw[xZ 3 n 0 0 rest (by omega) (by simp;omega) (fun h=>by omega)];simp
theorem ya:∀(l:List UInt8) (n k:Nat),(rv l n k).2.1<=k+l.length
 | [],n,k=>by simp[rv]
 | b :: l,n,k=>by
   rw[rv];split
   ·split
    ·simp
    ·have:=ya l (pushN n k b) (k+1);simp;omega
   ·split
    ·simp
    ·simp<;>omega
theorem jH(l:List UInt8):(bm l).2.1<=l.length:=by
 have:=ya l 0 0;unfold bm;omega
end Go.Proofs.YtbdgkkmbnahgiaaGreatDoor
