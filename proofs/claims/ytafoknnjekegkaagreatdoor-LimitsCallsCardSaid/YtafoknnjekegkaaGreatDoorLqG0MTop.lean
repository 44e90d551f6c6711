/- Parts: MTop, MVar. -/
import Derived.Test.YtafoknnjekegkaaGreatDoorLqG0MKit
import Derived.Lib.OthersKept
import Derived.Lib.RuneCount
import Derived.Lib.DecodeN
import Derived.Lib.MapLaws
import Derived.Shelf.Strings.IndexAnyAll
import Derived.Laws.Runes
import Derived.LoopN
import Derived.WalkMore
import Derived.RegionTactic
import Derived.BigRegion
set_option maxRecDepth 10000
set_option maxHeartbeats 8000000
namespace Go.Proofs.YtafoknnjekegkaaGreatDoor
open Go.RowKit Go.Proofs.Tryz
def ab3(s:abO):Bool:=decide (3<=s.size)&&((s.extract 0 3).toList==[239,191,189])
theorem ZP(s:abO)(w:abP)(hs:s.size<=4611686018427387904):
  abT 299 #[.string s] w (.bool (ab3 s)):=by
 by_cases h:3<=s.size
 ·have b:(3:Int)<=(s.size:Int):=by omega
  have a:Hid (ab3 s=((s.extract 0 3).toList==[239,191,189])):=by show _=_;simp[ab3,h]
  go_enter func299,ntmps299;go_wp2;go_ret;exact⟨by rw[a.o];rfl,rfl⟩
 ·have b:(s.size:Int)<(3:Int):=by omega
  have a:Hid (ab3 s=false):=by show _=_;simp[ab3,h]
  go_enter func299,ntmps299;go_wp2;go_ret;exact⟨by rw[a.o];rfl,rfl⟩
def xD:Nat->abO->Nat->Int
 | 0,_,_=>-1
 | f+1,s,pos=>if pos<s.size then(if(Utf8.decode s pos).1=0\/((Utf8.decode s pos).1=65533/\(Utf8.decode s pos).2=1)then(pos:Int)else xD f s (pos+(Utf8.decode s pos).2))else -1
def tI(s:abO):Int:=xD s.size s 0
def YF(s:abO):Bool:=decide (s.size<=65535)&&(tI s== -1)
theorem lG(s:abO)(pos k:Nat)(h:pos+k<s.size):(s.extract pos s.size).data.toList[k]? =some (s.get! (pos+k)):=by
 rw[Lib.extract_data];rw[List.getElem?_take,if_pos (by omega),List.getElem?_drop];show s.data.toList[pos+k]? =_;rw[List.getElem?_eq_getElem (by simpa using h)];simp[ByteArray.get!,getElem!_pos,h]
theorem wi{l:List UInt8}{a b c:UInt8}(h0:l[0]? =some a)(h1:l[1]? =some b)(h2:l[2]? =some c):l.take 3=[a,b,c]:=by
 match l,h0,h1,h2 with
 | x :: y :: z :: t,h0,h1,h2=>simp at*;exact⟨h0,h1,h2⟩
theorem Z9{a:UInt8}{n:Nat}(hn:n<256):a=UInt8.ofNat n↔a.toNat=n:=by
 constructor
 ·rintro rfl;rw[UInt8.toNat_ofNat'];omega
 ·rintro rfl;simp
theorem yW(s:abO)(pos:Nat)(hd:(Utf8.decode s pos).1=65533):ab3 (s.extract pos s.size)= !decide ((Utf8.decode s pos).2=1):=by
 have g:(s.extract pos s.size).size=s.size- pos:=by rw[aj];omega
 rw[Lib.decode_at]at*;by_cases k:3<=s.size- pos
 ·have m:((s.extract pos s.size).extract 0 3).toList=[s.get! pos,s.get! (pos+1),s.get! (pos+2)]:=by
   rw[ByteArray.toList_eq,Lib.extract_data,Yl];exact wi (lG s pos 0 (by omega)) (lG s pos 1 (by omega)) (lG s pos 2 (by omega))
  have j:ab3 (s.extract pos s.size)=decide ((s.get! pos).toNat=239/\(s.get! (pos+1)).toNat=191/\(s.get! (pos+2)).toNat=189):=by
   unfold ab3;rw[g,m,eG];simp only[k,decide_true,aL,aK,gY,Hj,cH];rw[show(239:UInt8)=UInt8.ofNat 239 by rfl,show(191:UInt8)=UInt8.ofNat 191 by rfl,show(189:UInt8)=UInt8.ofNat 189 by rfl,Z9 (by omega),Z9 (by omega),Z9 (by omega)]
  rw[j];generalize s.size- pos=n at*;generalize (s.get! pos).toNat=b0 at*;generalize (s.get! (pos+1)).toNat=b1 at*;generalize (s.get! (pos+2)).toNat=b2 at*;generalize (s.get! (pos+3)).toNat=b3 at*;by_cases i:b0=239/\b1=191/\b2=189
  ·obtain⟨rfl,rfl,rfl⟩:=i;have:Lib.decodeN n 239 191 189 b3=(65533,3):=by
    unfold Lib.decodeN;rw[Fl (by omega),Fl (by omega),if_pos ⟨by omega,⟨by omega,by omega⟩,by omega,by omega⟩,if_pos ⟨by omega,by omega⟩]
   rw[this]
   decide
  ·have:(Lib.decodeN n b0 b1 b2 b3).2=1:=by
    rcases Lib.decodeN_shape n b0 b1 b2 b3 with ⟨a,b⟩ | ⟨a,b,d,e,c⟩ | ⟨a,b,d,e,c,h,f⟩ | ⟨a,b,d,e,c,h,f,l⟩ | a
    ·rw[b]
    ·rw[c]at hd;simp only at hd;omega
    ·rw[f]at hd;simp only at hd;exfalso;apply i;omega
    ·rw[l]at hd;simp only at hd;omega
    ·rw[a]
   rw[this];simp[i]
 ·have j:ab3 (s.extract pos s.size)=false:=by simp[ab3,g,k]
  rw[j];have:(Lib.decodeN (s.size- pos) (s.get! pos).toNat (s.get! (pos+1)).toNat (s.get! (pos+2)).toNat (s.get! (pos+3)).toNat).2=1:=by
   rcases Lib.decodeN_shape (s.size- pos) (s.get! pos).toNat (s.get! (pos+1)).toNat (s.get! (pos+2)).toNat (s.get! (pos+3)).toNat with ⟨a,b⟩ | ⟨a,b,d,e,c⟩ | ⟨a,b,d,e,c,h,f⟩ | ⟨a,b,d,e,c,h,f,l⟩ | a
   ·rw[b]
   ·rw[c]at hd;simp only at hd;omega
   ·omega
   ·omega
   ·rw[a]
  rw[this];rfl
theorem Dv(s:abO)(w:abP)(hs:s.size<=4611686018427387904):
  abR 267 #[.string s] w (.int .i64 (tI s)):=by
 go_enter func267,ntmps267;go_wp2
 go_loopw [] (λwr=>∃(a f:Nat),s.size<=a+f/\tI s=xD f s a/\wr.heap[w.heap.size]? =some (.stringIter s a)/\abQ w wr) (λwr=>s.size- wr.iterPos w.heap.size)
 case atStart=>exact⟨0,s.size,by omega,rfl,World.iter_heap w s 0,(aq _ _).alloc (ac _) _⟩
 case round=>
  obtain⟨a,f,K,G,g,n⟩:=hrel;have M:w.heap.size<wr.heap.size:=(cZ.1 g).1;have x:=aa G;have t:=aa g
  clear G;by_cases p:a<s.size
  ·have v:∀l,(Instr.next (.pointer (some ⟨w.heap.size,0,none⟩)) true l).run prog wr=_:=λl=>Lib.run_next_any_at wr w.heap.size s a l g p;have H:=Lib.decode_width_pos s a p;have F:=decode_le s a;have o:=Lib.iterAt_heap wr w.heap.size s a (a+(Utf8.decode s a).2) g;have b:=Lib.below_iterAt n (k:=w.heap.size) (ac _) s (a+(Utf8.decode s a).2);have L:w.heap.size<(wr.iterAt w.heap.size s (a+(Utf8.decode s a).2)).heap.size:=by rw[Lib.iterAt_size];omega
   have i:=aa o;obtain⟨f,rfl⟩:∃f',f=f'+1:=⟨f- 1,by omega⟩;have y:=aa (yW s a);clear g o;generalize E:Utf8.decode s a=D at*;have z:=aa E;clear E
   obtain⟨c,j⟩:=D;generalize wr.iterAt w.heap.size s (a+j)=w2 at*;simp only at H F y v;have d:tI s=if c=0\/(c=65533/\j=1)then(a:Int)else xD f s (a+j):=by
    rw[x.o,xD,if_pos p,z.o]
   have h:=aa d;clear d x z
   by_cases C:c=0
   ·have m:Hid (tI s=a):=by show _=_;rw[h.o,if_pos (.inl C)]
    clear h;subst C;go_wp2;go_ret;exact⟨by rw[m.o];rfl,b⟩
   ·by_cases r:c=65533
    ·have B:=aa (y.o r);by_cases q:j=1
     ·have m:Hid (tI s=a):=by show _=_;rw[h.o,if_pos (.inr ⟨r,q⟩)]
      clear h;subst r;subst q;go_wp2_with fail;refine(ZP _ _ (by rw[aj];omega)).mono ?_;rintro e w' ⟨rfl,rfl⟩;rw[B.o];go_wp2;go_ret;exact⟨by rw[m.o];rfl,b⟩
     ·have u:decide (j=1)=false:=ah q;have A:=aa u;have m:Hid (tI s=xD f s (a+j)):=by show _=_;rw[h.o,Fl (by omega)]
      clear u h;subst r;go_wp2_with fail;refine(ZP _ _ (by rw[aj];omega)).mono ?_;rintro e w' ⟨rfl,rfl⟩;rw[B.o,A.o];go_wp2;go_roundw
      case rel=>exact⟨a+j,f,by omega,m.o,i.o,b⟩
      case measure=>
       simp only[World.iterPos,i.o,t.o];omega
    ·have I:((c:Int)==0)=false:=ar.2 (by omega);have J:((c:Int)==65533)=false:=ar.2 (by omega);go_wp2;go_roundw
     case rel=>exact⟨a+j,f,by omega,by rw[h.o,Fl (by omega)],i.o,b⟩
     case measure=>
      simp only[World.iterPos,i.o,t.o];omega
  ·have v:∀l,(Instr.next (.pointer (some ⟨w.heap.size,0,none⟩)) true l).run prog wr=_:=λl=>Lib.run_next_end_at wr w.heap.size s a l g p;have d:tI s= -1:=by
    rw[x.o];cases f with
    | zero=>rfl
    | succ f=>rw[xD,Fl p]
   have h:=aa d;clear d g
   go_wp2;go_ret;exact⟨by rw[h.o];rfl,n⟩
theorem fk(s:abO)(w:abP)(hs:s.size<=4611686018427387904):
  abR 208 #[.string s] w (.bool (YF s)):=by
 by_cases h:s.size<=65535
 ·have b:(s.size:Int)<=65535:=by omega
  have a:Hid (YF s=(tI s== -1)):=by show _=_;simp[YF,h]
  go_enter func208,ntmps208;go_wp2_with fail;refine Yg (Dv _ _ hs) λd c=>?_;go_wp2;go_ret;exact⟨by rw[a.o];rfl,c⟩
 ·have b:(65535:Int)<(s.size:Int):=by omega
  have a:Hid (YF s=false):=by show _=_;simp[YF,h]
  go_enter func208,ntmps208;go_wp2;go_ret;exact⟨by rw[a.o];rfl,aq _ _⟩
theorem xi(s:abO)(w:abP)(hs:s.size<=65535):
  abR 229 #[.string s] w (.string (⟨(Yk s.size 2).toArray⟩++s)):=by
 go_enter func229,ntmps229;go_wp2_with fail;refine Yg (pD s.size 2 _ (by omega) (by omega) (by omega)) λc a=>?_;have b:(Yk s.size 2).length<=2:=by rw[fM];omega
 go_wp2;go_ret;exact⟨rfl,a⟩
def cQ(s:abO):abO:=⟨(Yk s.size 2).toArray⟩++s
theorem mN(s:abO)(w:abP)(hs:s.size<=4611686018427387904):
  abR 212 #[.string s] w (.tuple #[.string (if s.size<=65535 then cQ s else⟨#[]⟩),.int .i64 (if s.size<=65535 then 0 else 2)]):=by
 by_cases h:s.size<=65535
 ·rw[if_pos h,if_pos h];have a:(s.size:Int)<=65535:=by omega
  go_enter func212,ntmps212;go_wp2_with fail;refine Yg (xi _ _ h) λc b=>?_;go_wp2;go_ret2;exact⟨rfl,b⟩
 ·rw[Fl h,Fl h];have a:(65535:Int)<(s.size:Int):=by omega
  go_enter func212,ntmps212;go_wp2;go_ret2;exact⟨rfl,aq _ _⟩
end Go.Proofs.YtafoknnjekegkaaGreatDoor
namespace Go.Proofs.YtafoknnjekegkaaGreatDoor
open Go.RowKit Go.Shelf
open Go.Proofs.Tryz
theorem mj(c:Nat)(w:abP)(hv:Utf8.valid c=true):
  abT 342 #[.int .i32 c] w (.bool true):=by
 have a:c<55296\/(57344<=c/\c<=1114111):=by
  simp[Utf8.valid]at hv;omega
 clear hv;rcases a with h| ⟨d,f⟩
 ·have b:(c:Int)<55296:=by omega
  clear h;go_enter func342,ntmps342;go_wp2;go_ret;exact⟨rfl,rfl⟩
 ·have b:¬(c:Int)<55296:=by omega
  have g:(57343:Int)<c:=by omega
  have i:(c:Int)<=1114111:=by omega
  clear d f;go_enter func342,ntmps342;go_wp2;go_ret;exact⟨rfl,rfl⟩
def oO:Ren:=⟨fun| 153=>300| 152=>329| 226=>330| 227=>331| 228=>332| 137=>341| 119=>342| 224=>343| 225=>344| 217=>350| 266=>355| n=>n,fun| 9=>9| 3=>3| 4=>4| 5=>5| 21=>21| 117=>276| 116=>275| 0=>0| 46=>76| 124=>285| n=>n,λn=>n⟩
theorem tj:Lays.n153 prog oO where
 mixed:=by kernel_rfl
 f119:=func342.trans (congrArg some (by kernel_rfl))
 f137:=func341.trans (congrArg some (by kernel_rfl))
 f152:=func329.trans (congrArg some (by kernel_rfl))
 f153:=func300.trans (congrArg some (by kernel_rfl))
 f217:=func350.trans (congrArg some (by kernel_rfl))
 f224:=func343.trans (congrArg some (by kernel_rfl))
 f225:=func344.trans (congrArg some (by kernel_rfl))
 f226:=func330.trans (congrArg some (by kernel_rfl))
 f227:=func331.trans (congrArg some (by kernel_rfl))
 f228:=func332.trans (congrArg some (by kernel_rfl))
 f266:=func355.trans (congrArg some (by kernel_rfl))
 t0:=underlying0
 a0:=Tryz.isAgg0
 z0:=Tryz.sizeOf0
 v0:=Tryz.zeroValue0
 t3:=underlying3
 a3:=Tryz.isAgg3
 z3:=Tryz.sizeOf3
 v3:=Tryz.zeroValue3
 t4:=underlying4
 a4:=Tryz.isAgg4
 z4:=Tryz.sizeOf4
 v4:=Tryz.zeroValue4
 t5:=underlying5
 a5:=Tryz.isAgg5
 z5:=Tryz.sizeOf5
 v5:=Tryz.zeroValue5
 t9:=underlying9
 a9:=Tryz.isAgg9
 z9:=Tryz.sizeOf9
 v9:=Tryz.zeroValue9
 t21:=underlying21
 a21:=Tryz.isAgg21
 z21:=Tryz.sizeOf21
 v21:=Tryz.zeroValue21
 t46:=underlying76
 a46:=Tryz.isAgg76
 z46:=Tryz.sizeOf76
 v46:=Tryz.zeroValue76
 t116:=underlying275
 a116:=Tryz.isAgg275
 z116:=Tryz.sizeOf275
 t117:=underlying276
 a117:=Tryz.isAgg276
 z117:=Tryz.sizeOf276
 v117:=Tryz.zeroValue276
 t124:=underlying285
 a124:=Tryz.isAgg285
 z124:=Tryz.sizeOf285
 v124:=Tryz.zeroValue285
theorem Be:(prog.info? (oO.t 116)).map (λi=>(i.zero,i.size))=some (some (.agg (Array.replicate 256 (.bool false))),256):=by kernel_rfl
theorem rh(s:abO)(c:Int)(w:abP):
  Calls prog 341 #[.string s,.int .u8 c] w λe w'=>e= .returned (.int .i64 (Lib.indexByte s.data.toList c.toNat.toUInt8))/\w'=w:=Any.strings_IndexByte {tj with} s c w
theorem pa(c:Int)(w:abP):
  Calls prog 341 #[.string ByteArray.empty,.int .u8 c] w λe w'=>e= .returned (.int .i64 (-1))/\w'=w:=rh ByteArray.empty c w
theorem o9(s:abO)(r:Int)(w:abP)(h0:0<=r)(h1:r<128):
  Calls prog 329 #[.string s,.int .i32 r] w λe w'=>e= .returned (.int .i64 (Lib.indexByte s.data.toList r.toNat.toUInt8))/\w'=w:=Any.strings_IndexRune_ascii {tj with} s r w h0 h1
theorem ri(s chars:abO)(w:abP)(h2:2<=chars.size)(h8:8<s.size)(hs:s.size<4294967281)(hcs:chars.size<4294967281)(hac:∀(j:Nat) b,chars.data.toList[j]? =some b->b.toNat<128):
  abR 300 #[.string s,.string chars] w (.int .i64 (Lib.indexAny s.data.toList chars.data.toList)):=by
 refine(Any.strings_IndexAny_long tj (zero_of_info Be).1 (zero_of_info Be).2 s chars w h2 h8 hs hcs hac).mono λe w' ⟨a,h2⟩=>⟨a,?_⟩;rw[h2];exact((aq _ _).alloc (ac _) _).alloc (by simp) _
theorem rf(c:Nat)(w:abP)(hv:Utf8.valid c=true)(hc:128<=c)(hn:c≠65533)(h2:(Utf8.encode c).size=2):
  abR 329 #[.string ⟨#[43,35]⟩,.int .i32 c] w (.int .i64 (-1)):=by
 obtain⟨-,-,a⟩:=encode_facts c hv (by omega);obtain⟨b,g⟩:∃b,Utf8.encode c=b:=⟨_,rfl⟩;rw[g]at a h2
 replace a:=a (by omega)
 obtain⟨x,d⟩:∃x,b[b.size- 1]'(by omega)=x:=⟨_,rfl⟩;rw[d]at a;have l:b[1]'(by omega)=x:=by rw[<-d];simp[h2]
 have f:((((⟨#[43,35]⟩:abO)[1]'(by decide)).toNat:Int) != (x.toNat:Int))=true:=by
  rw[show((⟨#[43,35]⟩:abO)[1]'(by decide))=35 from rfl];exact aA.2 (by simp;omega)
 clear d a;have j:(1:Int)<(b.size:Int):=by omega
 have i:=aa hv;clear hv
 have m:¬(c:Int)<128:=by omega
 have n:((c:Int)==65533)=false:=ar.2 (by omega);clear hc hn;go_enter func329,ntmps329;go_wp2_with fail;refine(mj c _ i.o).mono ?_;rintro e o ⟨rfl,rfl⟩;go_wp2
 go_step3
 go_wp2;refine wp_loop_rounds 1 ?_;rw[GD];go_wp2
 go_step3
 go_wp2;go_quiet (fail);clear f;have k:IntKind.i64.wrap 2=2:=by decide
 go_wp2;go_quiet (first| (go_at_call 341;exact(pa _ _).mono λe w' h=>⟨h.1,_,h.2⟩));go_wp2;rw[Exit.noGoto_ret];go_wp2;rw[Exit.noGoto_ret];go_wp2;go_ret;exact⟨rfl,aV (aq _ _) _⟩
theorem qw(c:Nat)(w:abP)(hv:Utf8.valid c=true)(hc:128<=c)(hn:c≠65533)(h2:2<(Utf8.encode c).size)(h4:(Utf8.encode c).size<=4):
  abR 329 #[.string ⟨#[43,35]⟩,.int .i32 c] w (.int .i64 (-1)):=by
 obtain⟨a,b⟩:∃a,Utf8.encode c=a:=⟨_,rfl⟩;rw[b]at h2 h4;obtain⟨l,i⟩:∃l:Int,(a.size:Int) - 1=l:=⟨_,rfl⟩;have j:IntKind.i64.wrap l=l:=by rw[aQ];omega
 have f:decide (l<2)=false:=ah (by omega);have d:=aa hv;clear hv
 have g:¬(c:Int)<128:=by omega
 have h:((c:Int)==65533)=false:=ar.2 (by omega);clear hc hn h2 h4;go_enter func329,ntmps329;go_wp2_with fail;refine(mj c _ d.o).mono ?_;rintro e k ⟨rfl,rfl⟩;go_wp2
 go_step3
 go_wp2;refine wp_loop_rounds 1 ?_;rw[GD];go_wp2;rw[Exit.noGoto_ret];go_wp2;go_ret;exact⟨rfl,aq _ _⟩
theorem rg(w:abP):
  abR 329 #[.string ⟨#[43,35]⟩,.int .i32 65533] w (.int .i64 (-1)):=by
 go_enter func329,ntmps329;go_wp2
 go_loopw [5,6] (λ_ _ wr=>∃a:Nat,a<=2/\wr.heap[w.heap.size]? =some (.stringIter ⟨#[43,35]⟩ a)/\abQ w wr) (λ_ _ wr=>2- wr.iterPos w.heap.size)
 case atStart=>exact⟨0,by omega,World.iter_heap w _ 0,(aq _ _).alloc (ac _) _⟩
 case round=>
  obtain⟨a,r,b,g⟩:=hrel;have n:=aa b;have h:=Lib.iterAt_heap wr w.heap.size ⟨#[43,35]⟩ a (a+1) b;have l:=Lib.below_iterAt g (k:=w.heap.size) (ac _) ⟨#[43,35]⟩ (a+1);have f:=aa h;clear h
  by_cases j:a<2
  ·have p:∃c:Nat,Utf8.decode ⟨#[43,35]⟩ a=(c,1)/\((c:Int)==65533)=false:=by
    obtain rfl| rfl:a=0\/a=1:=by omega
    ·exact⟨43,by decide+kernel,rfl⟩
    ·exact⟨35,by decide+kernel,rfl⟩
   obtain⟨c,m,q⟩:=p;have i:∀d,(Instr.next (.pointer (some ⟨w.heap.size,0,none⟩)) true d).run prog wr=_:=λd=>Lib.run_next_any_at wr w.heap.size ⟨#[43,35]⟩ a d b j;rw[m]at i;simp only at i;generalize wr.iterAt w.heap.size ⟨#[43,35]⟩ (a+1)=w2 at*;have o:=aa j;clear b j m;go_wp2;go_roundw
   case rel=>exact⟨a+1,by have:=o.o;omega,f.o,l⟩
   case measure=>
    have:=o.o;simp only[World.iterPos,f.o,n.o];omega
  ·have i:∀d,(Instr.next (.pointer (some ⟨w.heap.size,0,none⟩)) true d).run prog wr=_:=λd=>Lib.run_next_end_at wr w.heap.size ⟨#[43,35]⟩ a d b j;clear b;go_wp2;go_ret;exact⟨rfl,g⟩
theorem ms(c:Nat)(w:abP)(hv:c<128\/(128<=c/\Utf8.valid c=true)):
  abR 329 #[.string ⟨#[43,35]⟩,.int .i32 c] w (.int .i64 (if c=43 then 0 else if c=35 then 1 else -1)):=by
 rcases hv with h| ⟨h,hv⟩
 ·refine(o9 _ c w (by omega) (by omega)).mono λe w' b=>?_;obtain⟨g,rfl⟩:=b;refine⟨?_,aq _ _⟩;rw[g];have:∀d:Fin 128,Lib.indexByte [43,35] ((d.val:Int).toNat.toUInt8)=(if d.val=43 then 0 else if d.val=35 then 1 else -1):=by decide+kernel
  exact congrArg (λi=>Ending.returned (Value.int .i64 i)) (this ⟨c,h⟩)
 ·rw[Fl (by omega),Fl (by omega)];by_cases a:c=65533
  ·subst a;exact rg w
  ·obtain⟨k,f,-⟩:=encode_facts c hv (by omega);by_cases j:(Utf8.encode c).size=2
   ·exact rf c w hv h a j
   ·exact qw c w hv h a (by omega) f
theorem tw(s:abO)(pos:Nat):(Utf8.decode s pos=((s.get! pos).toNat,1)/\(s.get! pos).toNat<128)\/
  (128<=(Utf8.decode s pos).1/\Utf8.valid (Utf8.decode s pos).1=true/\∀j,j<(Utf8.decode s pos).2->128<=(s.get! (pos+j)).toNat):=by
 rw[Lib.decode_at];have m:=UInt8.toNat_lt (s.get! pos);have o:∀j,j=0\/j=1\/j=2\/j=3\/4<=j:=by omega
 have d:(s.get! (pos+0))=s.get! pos:=rfl;generalize s.size- pos=n;rcases Lib.decodeN_shape n (s.get! pos).toNat (s.get! (pos+1)).toNat (s.get! (pos+2)).toNat (s.get! (pos+3)).toNat with ⟨b,c⟩ | ⟨b,c,g,e,f⟩ | ⟨b,c,g,e,f,k,h⟩ | ⟨b,c,g,e,f,k,h,l⟩ | b
 ·exact .inl ⟨c,b⟩
 ·rw[f];refine .inr ⟨e,?_,?_⟩
  ·simp[Utf8.valid];omega
  ·intro j a;obtain rfl| rfl:j=0\/j=1:=by simp only at a;omega
   ·rw[d];omega
   ·omega
 ·rw[h];refine .inr ⟨by simp only;omega,?_,?_⟩
  ·simp[Utf8.valid];omega
  ·intro j a;obtain rfl| rfl| rfl:j=0\/j=1\/j=2:=by simp only at a;omega
   ·rw[d];omega
   ·omega
   ·omega
 ·rw[l];refine .inr ⟨by simp only;omega,?_,?_⟩
  ·simp[Utf8.valid];omega
  ·intro j a;obtain rfl| rfl| rfl| rfl:j=0\/j=1\/j=2\/j=3:=by simp only at a;omega
   ·rw[d];omega
   ·omega
   ·omega
   ·omega
 ·by_cases i:(s.get! pos).toNat<128
  ·left;refine⟨?_,i⟩;unfold Lib.decodeN;rw[if_pos i]
  ·rw[b];refine .inr ⟨by decide,by decide,?_⟩;intro j a;obtain rfl:j=0:=by simp only at a;omega
   rw[d];omega
end Go.Proofs.YtafoknnjekegkaaGreatDoor
namespace Go.Proofs.YtafoknnjekegkaaGreatDoor
open Go.RowKit Go.Shelf
open Go.Proofs.Tryz
def im(b:UInt8):Bool:=b==43 || b==35
def mg(s:abO):Bool:=(ls s).any im
theorem lf(b:UInt8):im b=decide (b.toNat=43\/b.toNat=35):=by
 unfold im;rw[eG];simp[<-UInt8.toNat_inj]
theorem sF(b:UInt8)(h:128<=b.toNat):im b=false:=by
 rw[lf];exact ah (by omega)
theorem Cz(s:abO)(i:Nat)(h:i<s.size):(ls s)[i]'(by rw[aN];exact h)=s.get! i:=by
 rw[uY s i h];simp[ByteArray.get!,getElem!_pos,h];rfl
theorem AA(s:abO)(h:∀i,i<s.size->im (s.get! i)=false):mg s=false:=by
 unfold mg;rw[List.any_eq_false];intro b c;obtain⟨i,a,rfl⟩:=List.getElem_of_mem c;rw[aN]at a;rw[Cz s i a,h i a]
 decide
theorem Dw(s:abO)(i:Nat)(hi:i<s.size)(h:im (s.get! i)=true):mg s=true:=by
 unfold mg;rw[List.any_eq_true];exact⟨_,iY (by rw[aN];exact hi),by rw[Cz s i hi];exact h⟩
theorem xq(n b0 b1 b2 b3:Nat)(hn:1<=n):(Lib.decodeN n b0 b1 b2 b3).2<=n:=by
 unfold Lib.decodeN
 repeat' split
 all_goals (simp only;omega)
theorem aaH{s:abO}{pos c wd:Nat}(h:((c,wd)=((s.get! pos).toNat,1)/\(s.get! pos).toNat<128)\/(128<=c/\Utf8.valid c=true/\∀j,j<wd->128<=(s.get! (pos+j)).toNat)):c<128\/(128<=c/\Utf8.valid c=true):=by
 rcases h with ⟨a,b⟩ | ⟨a,b,-⟩
 ·simp only[bG]at a;exact .inl (by omega)
 ·exact .inr ⟨a,b⟩
theorem qx(s:abO)(w:abP)(h8:s.size<=8):
  Calls prog 300 #[.string s,.string ⟨#[43,35]⟩] w λe w'=>∃i:Int,e= .returned (.int .i64 i)/\decide (0<=i)=mg s/\abQ w w':=by
 have X:decide ((8:Int)<(s.size:Int))=false:=ah (by omega);have HS:=aa h8;clear h8
 go_enter func300,ntmps300;go_wp2_with fail;refine(show Calls prog 330 #[.int .i64 s.size] w λe w'=>e= .returned (.bool false)/\w'=w from by
  go_enter func330,ntmps330;go_wp2;go_ret;exact⟨rfl,rfl⟩).mono ?_
 rintro e w' ⟨rfl,W⟩;subst W;go_wp2
 go_loopw [9,10] (λ_ _ wr=>∃a:Nat,a<=s.size/\(∀i,i<a->im (s.get! i)=false)/\wr.heap[w'.heap.size]? =some (.stringIter s a)/\abQ w' wr) (λ_ _ wr=>s.size- wr.iterPos w'.heap.size)
 case atStart=>exact⟨0,by omega,λi h=>by omega,World.iter_heap w' s 0,(aq _ _).alloc (ac _) _⟩
 case round=>
  obtain⟨a,B,C,b,r⟩:=hrel;have K:=aa C;have HL:=aa B;clear C B
  have hz:w'.heap.size<wr.heap.size:=(cZ.1 b).1;have J:=aa b;by_cases v:a<s.size
  ·have E:∀f,(Instr.next (.pointer (some ⟨w'.heap.size,0,none⟩)) true f).run prog wr=_:=λf=>Lib.run_next_any_at wr w'.heap.size s a f b v;have x:=Lib.decode_width_pos s a v;have N:=decode_le s a;have y:a+(Utf8.decode s a).2<=s.size:=by rw[Lib.decode_at];have:=xq (s.size- a) (s.get! a).toNat (s.get! (a+1)).toNat (s.get! (a+2)).toNat (s.get! (a+3)).toNat (by omega);omega
   have t:=Lib.iterAt_heap wr w'.heap.size s a (a+(Utf8.decode s a).2) b;have j:=Lib.below_iterAt r (k:=w'.heap.size) (ac _) s (a+(Utf8.decode s a).2);have P:w'.heap.size<(wr.iterAt w'.heap.size s (a+(Utf8.decode s a).2)).heap.size:=by rw[Lib.iterAt_size];omega
   have F:=aa t;have g:=aa j
   have n:=aa (tw s a);clear b t j;generalize M:Utf8.decode s a=D at*;have Z:=aa M;clear M
   obtain⟨c,I⟩:=D;generalize wr.iterAt w'.heap.size s (a+I)=w2 at*;simp only at x N n E y;have L:=aa v;have U:=aa x;have A:=aa y
   clear v x y;by_cases z:c=43\/c=35
   ·have q:mg s=true:=by
     rcases n.o with ⟨p,H⟩ | ⟨p,H⟩
     ·refine Dw s a L.o ?_;rw[lf];simp only[bG]at p;exact au (by omega)
     ·omega
    have R:=aa q;clear q
    have l:∃i:Int,(if c=43 then(0:Int)else if c=35 then 1 else -1)=i/\decide (0<=i)=true:=by
     rcases z with rfl| rfl
     ·exact⟨0,rfl,rfl⟩
     ·exact⟨1,rfl,rfl⟩
    obtain⟨i,l,Y⟩:=l;have T:=aa l;clear l z
    go_wp2_with fail;refine Yg (ms c _ (aaH n.o)) λQ d=>?_;rw[T.o];have m:=aa d;clear d
    go_wp2;go_ret;exact⟨a,rfl,by rw[R.o];exact au (by omega),Yf g.o m.o⟩
   ·have G:=aa z;clear z
    go_wp2_with fail;refine Yg (ms c _ (aaH n.o)) λQ d=>?_;rw[Fl (λe=>G.o (.inl e)),Fl (λe=>G.o (.inr e))];have u:Q.heap[w'.heap.size]? =some (.stringIter s (a+I)):=(d.block _ P).trans F.o;have m:=aa (Yf g.o d);clear d
    have o:=aa u;clear u
    go_wp2;go_roundw
    case rel=>
     refine⟨a+I,A.o,?_,o.o,m.o⟩;intro i l;by_cases O:i<a
     ·exact K.o i O
     ·rcases n.o with ⟨p,H⟩ | ⟨p,H,V⟩
      ·simp only[bG]at p;obtain rfl:i=a:=by omega
       rw[lf];have:=G.o;exact ah (by omega)
      ·have:=V (i- a) (by omega);rw[show a+(i- a)=i by omega]at this;exact sF _ this
    case measure=>
     have:=U.o;have:=A.o;have:=L.o
     simp only[World.iterPos,o.o,J.o];omega
  ·have E:∀f,(Instr.next (.pointer (some ⟨w'.heap.size,0,none⟩)) true f).run prog wr=_:=λf=>Lib.run_next_end_at wr w'.heap.size s a f b v;have S:Hid (mg s=false):=aa (AA s λi l=>K.o i (by omega));clear b;go_wp2;go_ret;exact⟨-1,rfl,by rw[S.o];rfl,r⟩
end Go.Proofs.YtafoknnjekegkaaGreatDoor
namespace Go.Proofs.YtafoknnjekegkaaGreatDoor
open Go.RowKit Go.Shelf
open Go.Proofs.Tryz
theorem nc:∀l:List UInt8,decide (0<=Lib.indexAny l [43,35])=l.any im
 | []=>rfl
 | b :: l=>by
   have ih:=nc l;have c:=Lib.indexAny_ge [43,35] l;rw[Lib.indexAny,List.any_cons];have a:([43,35]:List UInt8).contains b=im b:=by simp[im];rfl
   rw[a];cases d:im b
   ·rw[Fl (by simp),nB,<-ih];by_cases h:Lib.indexAny l [43,35]= -1
    ·rw[h];rfl
    ·rw[Fl (by simpa using h)];rw[qf];omega
   ·simp
def jY(s:abO):Bool:=decide (s.size≠0)&&YF s
def fp(s:abO):Bool:=jY s&& !mg s
theorem kW(s:abO)(w:abP)(hs:s.size<=65535):
  abR 269 #[.string s,.string ⟨#[43,35]⟩] w (.bool (mg s)):=by
 have c:Calls prog 300 #[.string s,.string ⟨#[43,35]⟩] w λe w'=>∃i:Int,e= .returned (.int .i64 i)/\decide (0<=i)=mg s/\abQ w w':=by
  by_cases f:s.size<=8
  ·exact qx s w f
  ·refine(ri s ⟨#[43,35]⟩ w (by decide) (by omega) (by omega) (by decide) ?_).mono λe w' h=>⟨_,h.1,nc _,h.2⟩;intro j b a;have:b∈[(43:UInt8),35]:=iL a;simp at this;rcases this with rfl| rfl<;>decide
 go_enter func269,ntmps269;go_wp2_with fail;refine c.mono ?_;rintro e k ⟨i,rfl,g,a⟩;have d:=aa a;clear a
 go_wp2;go_ret;exact⟨by rw[<-g];rfl,d.o⟩
theorem rH(s:abO)(w:abP)(hs:s.size<=4611686018427387904):
  abR 268 #[.string s] w (.bool (jY s)):=by
 by_cases h:s.size=0
 ·have f:s.toList.isEmpty=true:=by rw[Lib.toList_data,List.length_eq_zero_iff.1 ((Lib.size_eq s).symm.trans h)];rfl
  have a:Hid (jY s=false):=aa (by simp[jY,h]);clear h hs;go_enter func268,ntmps268;go_wp2;go_ret;exact⟨by rw[a.o];rfl,aq _ _⟩
 ·have f:s.toList.isEmpty=false:=by
   rw[Lib.toList_data];cases g:s.data.toList with
   | nil=>exact absurd ((Lib.size_eq s).trans (by rw[g];rfl)) h
   | cons _ _=>rfl
  have a:Hid (jY s=YF s):=aa (by simp[jY,h]);have d:=aa hs;clear h hs;go_enter func268,ntmps268;go_wp2_with fail;refine Yg (fk s _ d.o) λi b=>?_;have c:=aa b;clear b
  go_wp2;go_ret;exact⟨by rw[a.o];rfl,c.o⟩
theorem gL{s:abO}(h:YF s=true):s.size<=65535:=by
 unfold YF at h;simp at h;exact h.1
theorem lw(s:abO)(w:abP)(hs:s.size<=4611686018427387904):
  abR 209 #[.string s] w (.bool (fp s)):=by
 have f:=aa hs;clear hs
 go_enter func209,ntmps209;go_wp2_with fail;refine Yg (rH s _ f.o) λh c=>?_;have b:=aa c;clear c
 cases a:jY s
 ·have d:Hid (fp s=false):=aa (by simp[fp,a]);clear a;go_wp2;go_ret;exact⟨by rw[d.o];rfl,b.o⟩
 ·have d:Hid (fp s= !mg s):=aa (by simp[fp,a]);have g:Hid (s.size<=65535):=aa (gL (by simp[jY]at a;exact a.2));clear a;go_wp2_with fail;refine Yg (kW s _ g.o) λi c=>?_;have b:=aa (Yf b.o c);clear c
  go_wp2;go_ret;exact⟨by rw[d.o];rfl,b.o⟩
end Go.Proofs.YtafoknnjekegkaaGreatDoor
namespace Go.Proofs.YtafoknnjekegkaaGreatDoor
open Go.RowKit Go.Proofs.Tryz
abbrev RT:TypeId:=101
def Rdr(w:abP)(g:Nat)(n k:Nat)(d b:Bool):Prop:=Bk w g RT #[.int .i64 n,.int .i64 k,.bool d,.bool b]
theorem wO(w:abP):
  Calls prog 62 #[] w λe w'=>e= .returned (.pointer (some ⟨w.heap.size,0,none⟩))/\Rdr w' w.heap.size 0 0 false false/\abQ w w':=by
 go_enter func62,ntmps62;go_wp2;go_ret;exact⟨rfl,Bk.fresh _ _ _,(aq _ _).alloc (ac _) _⟩
def pushN(n k:Nat)(b:UInt8):Nat:=n+b.toNat% 128*2^ (7*k)
def xK(g q k:Nat)(d b:Bool)(x:Int)(w:abP)(e:Ending)(w':abP):Prop:=e= .returned (.tuple #[.bool d,.int .i64 x])/\Rdr w' g q k d b/\w.grownBy w' (some g)
theorem wC{w:abP}{g n k:Nat}(h:Rdr w g n k false false)(q:Nat)(x y:Int)(hx:x=q)(hy:y=(k+1:Nat))(i:Nat)(z d b:Bool)(hz:(#[.int .i64 (q:Int),.int .i64 ((k+1:Nat):Int),.bool false,.bool false]:Array Value).setIfInBounds i (.bool z)= #[.int .i64 q,.int .i64 ((k+1:Nat):Int),.bool d,.bool b]):
  Rdr (((w.setCell ⟨g,0,none⟩ (.int .i64 x)).setCell ⟨g,1,none⟩ (.int .i64 y)).setCell ⟨g,i,none⟩ (.bool z)).drew g q (k+1) d b:=by
 subst hx hy;exact((Bk.upd h 0 _ rfl).upd 1 _ rfl).upd i _ hz
theorem sN(w:abP)(g i j k:Nat)(x y z:Value):w.grownBy (((w.setCell ⟨g,i,none⟩ x).setCell ⟨g,j,none⟩ y).setCell ⟨g,k,none⟩ z).drew (some g):=
 nW (((YR _ _ _ _).trans (YR _ _ _ _)).trans (YR _ _ _ _)) 1
theorem aat(a b:UInt8):bits BinOp.and IntKind.u8 (a.toNat:Int) (b.toNat:Int)=((a&&& b).toNat:Int):=by
 have h:∀x:UInt8,(BitVec.ofInt 8 (x.toNat:Int)).toNat=x.toNat:=λx=>by
  rw[BitVec.ofInt_natCast,BitVec.toNat_ofNat];exact Nat.mod_eq_of_lt x.toNat_lt
 show IntKind.u8.wrap ((BitVec.ofInt 8 (a.toNat:Int)&&& BitVec.ofInt 8 (b.toNat:Int)).toNat:Int)=_;rw[BitVec.toNat_and,h,h,UInt8.toNat_and];have c:=(a&&& b).toNat_lt;rw[UInt8.toNat_and]at c;simp only[IntKind.wrap,IntKind.bits,IntKind.signed];simp;omega
theorem FG(b:UInt8):bits BinOp.and IntKind.u8 (b.toNat:Int) 127=((b.toNat% 128:Nat):Int):=by
 have h:=aat b 127;rw[UInt8.toNat_and]at h;rw[show(127:UInt8).toNat=2^ 7- 1 by decide,kC]at h;exact h
theorem top1(b:UInt8):bits BinOp.and IntKind.u8 (b.toNat:Int) 128=if 128<=b.toNat then 128 else 0:=by
 have h:∀b:Fin 256,((UInt8.ofNat b.1&&& 128).toNat:Int)=if 128<=(UInt8.ofNat b.1).toNat then 128 else 0:=by decide+kernel
 have c:=aat b 128;have a:=h ⟨b.toNat,b.toNat_lt⟩;simp only[UInt8.ofNat_toNat]at a;exact c.trans a
theorem rT(g n k:Nat)(b:UInt8)(w:abP)(h:Rdr w g n k false false)(hk:k<=3)(hn:n<2^ (7*k))(hb:128<=b.toNat):
  Calls prog 63 #[.pointer (some ⟨g,0,none⟩),.int .u8 b.toNat] w (xK g (pushN n k b) (k+1) false (k==3) (if k=3 then 5 else 0) w):=by
 obtain⟨⟨f,i,j,l⟩,o,f1,p,r⟩:=Bk.four h;have d:=aa h;have e:=FG b;have c:bits BinOp.and IntKind.u8 (b.toNat:Int) 128=128:=by rw[top1,if_pos hb]
 have s:b.toNat% 128<128:=iI _ (by omega);have a:Hid (pushN n k b=n+b.toNat% 128*2^ (7*k)):=rfl;generalize b.toNat% 128=m at*;generalize pushN n k b=q at*;clear h;obtain rfl| rfl| rfl| rfl:k=0\/k=1\/k=2\/k=3:=by omega
 all_goals
  first
  | (exfalso;simp at*;done)
  | (simp only[Nat.reduceMul,Nat.reducePow]at hn a
     go_enter func63,ntmps63;go_wp2;go_region
     all_goals
      go_wp2;go_ret2;have:=a.o;refine⟨rfl,?_,sN _ _ _ _ _ _ _ _⟩;exact wC d.o q _ _ (by omega) (by omega) 3 _ _ _ rfl)
theorem zw(g n k:Nat)(b:UInt8)(w:abP)(h:Rdr w g n k false false)(hk:k<=3)(hn:n<2^ (7*k))(hb:b.toNat=0)(hk0:0<k):
  Calls prog 63 #[.pointer (some ⟨g,0,none⟩),.int .u8 b.toNat] w (xK g (pushN n k b) (k+1) false true 5 w):=by
 obtain⟨⟨f,i,j,l⟩,o,f1,p,r⟩:=Bk.four h;have d:=aa h;have e:=FG b;have c:bits BinOp.and IntKind.u8 (b.toNat:Int) 128=0:=by rw[top1,Fl (by omega)]
 have t:((b.toNat:Int)==0)=true:=by rw[hb];rfl
 have s:b.toNat% 128<128:=iI _ (by omega);have a:Hid (pushN n k b=n+b.toNat% 128*2^ (7*k)):=rfl;generalize b.toNat% 128=m at*;generalize pushN n k b=q at*;clear h hb;obtain rfl| rfl| rfl| rfl:k=0\/k=1\/k=2\/k=3:=by omega
 all_goals
  first
  | (exfalso;simp at*;done)
  | (simp only[Nat.reduceMul,Nat.reducePow]at hn a
     go_enter func63,ntmps63;go_wp2;go_region
     all_goals
      go_wp2;go_ret2;have:=a.o;refine⟨rfl,?_,sN _ _ _ _ _ _ _ _⟩;exact wC d.o q _ _ (by omega) (by omega) 3 _ _ _ rfl)
theorem zx(g n k:Nat)(b:UInt8)(w:abP)(h:Rdr w g n k false false)(hk:k<=3)(hn:n<2^ (7*k))(hb:b.toNat<128)(hk0:b.toNat=0->k=0):
  Calls prog 63 #[.pointer (some ⟨g,0,none⟩),.int .u8 b.toNat] w (xK g (pushN n k b) (k+1) true false 0 w):=by
 obtain⟨⟨l,o,p,r⟩,s,f1,t,u⟩:=Bk.four h;have f:=aa h;have i:=FG b;have e:bits BinOp.and IntKind.u8 (b.toNat:Int) 128=0:=by rw[top1,Fl (by omega)]
 obtain⟨z,c⟩:∃z,((b.toNat:Int)==0)=z:=⟨_,rfl⟩;have d:z=true->k=0:=λh=>hk0 (by rw[h]at c;simpa using c);have v:b.toNat% 128<128:=iI _ (by omega);have a:Hid (pushN n k b=n+b.toNat% 128*2^ (7*k)):=rfl;generalize b.toNat% 128=m at*;generalize pushN n k b=q at*;clear h hk0;have j:(z=true/\k=0)\/(z=false/\(k=0\/k=1\/k=2\/k=3)):=by cases z<;>simp_all<;>omega
 clear d;obtain⟨rfl,rfl⟩ | ⟨rfl,rfl| rfl| rfl| rfl⟩:=j
 all_goals
  first
  | (exfalso;simp at*;done)
  | (simp only[Nat.reduceMul,Nat.reducePow]at hn a
     go_enter func63,ntmps63;go_wp2;go_region
     all_goals
      go_wp2;go_ret2;have:=a.o;refine⟨rfl,?_,sN _ _ _ _ _ _ _ _⟩;exact wC f.o q _ _ (by omega) (by omega) 2 _ _ _ rfl)
def rv:List UInt8->Nat->Nat->Nat×Nat×Int
 | [],_,_=>(0,0,3)
 | b :: l,n,k=>
   if 128<=b.toNat then(if k=3 then(0,0,5)else rv l (pushN n k b) (k+1))
   else if b.toNat=0/\0<k then(0,0,5)else(pushN n k b,k+1,0)
def YT(l:List UInt8):Nat×Nat×Int:=rv l 0 0
theorem uN{n k:Nat}(b:UInt8)(h:n<2^ (7*k)):pushN n k b<2^ (7*(k+1)):=by
 unfold pushN;have c:b.toNat% 128<128:=iI _ (by omega);have a:2^ (7*(k+1))=128*2^ (7*k):=by rw[Nat.mul_add,Nat.pow_add,eV]
 rw[a];have d:b.toNat% 128*2^ (7*k)<=127*2^ (7*k):=iH _ (by omega);omega
theorem DQ{s:abO}{k:Nat}(h:k<s.size)(n:Nat):rv ((ls s).drop k) n k=rv (s[k] :: (ls s).drop (k+1)) n k:=by
 rw[bQ (by rw[aN];exact h),uY s k h]
theorem nO(s:abO)(w:abP)(hs:s.size<=4611686018427387904):
  abR 45 #[.string s] w (.tuple #[.int .i64 (YT (ls s)).1,.int .i64 (YT (ls s)).2.1,.int .i64 (YT (ls s)).2.2]):=by
 go_enter func45,ntmps45;go_wp2_with fail;refine(wO _).mono ?_;rintro e I ⟨rfl,r,C⟩;have H:w.heap.size<I.heap.size:=Bk.lt r;go_wp2
 go_loopw [12] (λi wr=>∃k n:Nat,k<=s.size/\k<=3/\i= .int .i64 k/\n<2^ (7*k)/\Rdr wr w.heap.size n k false false/\YT (ls s)=rv ((ls s).drop k) n k/\abQ w wr) (λi _=>s.size- (intOf i).toNat)
 case atStart=>exact⟨0,0,by omega,by omega,rfl,by simp,r,rfl,C⟩
 case round=>
  obtain⟨k,n,N,m,rfl,E,A,F,f⟩:=hrel;have u:=aa A;have q:=aa F;have p:=aa E
  have O:=Bk.lt A;clear A F E r;by_cases D:k<s.size
  ·have o:=aa (DQ D n);have G:(k:Int)<(s.size:Int):=by omega
   obtain⟨b,z⟩:∃b,b=s[k]:=⟨_,rfl⟩;have l:=aa z;rw[<-z]at o;clear z;by_cases d:128<=b.toNat
   ·by_cases h:k=3
    ·have a:YT (ls s)=(0,0,5):=by rw[q.o,o.o];simp[rv,d,h]
     have j:=aa a;have B:=aa h;clear a h
     go_wp2_with fail;rw[<-l.o];refine(rT w.heap.size n k b _ u.o m p.o d).mono ?_;rintro e y ⟨rfl,g,c⟩;rw[if_pos B.o];go_wp2;go_ret3;exact⟨by rw[j.o];rfl,dw f c (by omega) (ac _)⟩
    ·have a:YT (ls s)=rv ((ls s).drop (k+1)) (pushN n k b) (k+1):=by rw[q.o,o.o];simp[rv,d,h]
     have j:=aa a;clear a
     go_wp2_with fail;rw[<-l.o];refine(rT w.heap.size n k b _ u.o m p.o d).mono ?_;rintro e y ⟨rfl,g,c⟩;rw[Fl h];have t:Rdr y w.heap.size (pushN n k b) (k+1) false false:=by
      have:(k==3)=false:=by simpa using h
      rwa[this]at g
     have R:=aa (And.intro t (dw f c (by omega) (ac _)));clear g t c;go_wp2;go_roundw
     case rel=>exact⟨k+1,pushN n k b,by omega,by omega,by go_num,uN b p.o,R.o.1,j.o,R.o.2⟩
     case measure=>simp[intOf];omega
   ·by_cases v:b.toNat=0/\0<k
    ·have a:YT (ls s)=(0,0,5):=by rw[q.o,o.o];simp[rv,v]
     have j:=aa a;clear a
     go_wp2_with fail;rw[<-l.o];refine(zw w.heap.size n k b _ u.o m p.o v.1 v.2).mono ?_;rintro e y ⟨rfl,g,c⟩;go_wp2;go_ret3;exact⟨by rw[j.o];rfl,dw f c (by omega) (ac _)⟩
    ·have a:YT (ls s)=(pushN n k b,k+1,0):=by rw[q.o,o.o];simp[rv,d,v]
     have j:=aa a;clear a
     go_wp2_with fail;rw[<-l.o];refine(zx w.heap.size n k b _ u.o m p.o (by omega) (by omega)).mono ?_;rintro e y ⟨rfl,g,c⟩;obtain⟨⟨J,K,L,M⟩,_⟩:=Bk.four g;have x:=dw f c (by omega) (ac _);clear g c;go_wp2;go_quiet (fail);go_wp2;go_ret3;exact⟨by rw[j.o];rfl,aV x _⟩
  ·obtain rfl:k=s.size:=by omega
   have a:YT (ls s)=(0,0,3):=by
    rw[q.o,gD (by rw[aN];exact ac _)];rfl
   have j:=aa a;clear a
   go_wp2;go_ret3;exact⟨by rw[j.o];rfl,f⟩
def wT(n:Int):Bool:=decide (0<=n)&&decide (n<=268435455)
theorem qm(n:Int)(w:abP):
  abT 99 #[.int .i64 n] w (.bool (wT n)):=by
 go_enter func99,ntmps99;go_wp2
 all_goals
  go_ret;refine⟨?_,rfl⟩
  (try simp[wT])<;>omega
def ig:Nat->Nat->List UInt8
 | 0,n=>[UInt8.ofNat n]
 | f+1,n=>if n<128 then [UInt8.ofNat n]else UInt8.ofNat (n% 128+128) :: ig f (n/ 128)
def eP(n:Nat):List UInt8:=ig 3 n
theorem tG(l:List UInt8):∀u∈bys l,u.oneCell'=true:=by
 intro u a;obtain⟨c,_,rfl⟩:=jX.1 a;rfl
theorem nu(l:List UInt8):(bys l).length=l.length:=by simp[bys]
theorem mO:∀(f n:Nat),(ig f n).length<=f+1
 | 0,n=>by simp[ig]
 | f+1,n=>by
   unfold ig;split
   ·simp
   ·have:=mO f (n/ 128);simp;omega
theorem Fv(n:Nat)(h:n<128):bits BinOp.or IntKind.u8 (n:Int) 128=((n+128:Nat):Int):=by
 have:∀i:Fin 128,bits BinOp.or IntKind.u8 ((i.1:Nat):Int) 128=((i.1+128:Nat):Int):=by decide+kernel
 exact this ⟨n,h⟩
theorem mP(n:Nat)(w:abP)(hn:n<=268435455):
  abR 82 #[.int .i64 n] w (.tuple #[.string ⟨(eP n).toArray⟩,.int .i64 0]):=by
 have J:Hid (wT n=true):=by show _=_;simp[wT];omega
 go_enter func82,ntmps82;go_wp2_with fail;refine(qm _ _).mono ?_;rintro e w' ⟨rfl,rfl⟩;rw[J.out];go_wp2
 go_loopw [0,4] (λv o wr=>∃(m f:Nat) (a:List UInt8),f<=3/\m<128^ (f+1)/\a.length+f=3/\v= .int .i64 m/\eP n=a++ig f m/\wr.ownsRow w.heap.size 5 1 o a.length (bys a)/\abQ w wr) (λv _ _=>(intOf v).toNat)
 case atStart=>exact⟨n,3,[],by omega,by simp;omega,rfl,rfl,rfl,dD _ _ _ _,aq _ _⟩
 case round=>
  obtain⟨m,f,a,hf,z,B,rfl,L,s,i⟩:=hrel;have C:=aa L;have u:=aa s;have Q:=aa B;have p:=aa z
  have ac:a.length<=3:=by omega
  have hz:=i.size;have Z:m<268435456:=by
   have:128^ (f+1)<=128^ 4:=df (by omega) (by omega);have H:(128:Nat) ^ 4=268435456:=by decide
   omega
  clear L s B z J;by_cases X:128<=m
  ·have W:(128:Int)<=(m:Int):=by omega
   obtain⟨c,j⟩:∃c,c=UInt8.ofNat (m% 128+128):=⟨_,rfl⟩;have ab:bits BinOp.or IntKind.u8 ((m:Int) % 128) 128=(c.toNat:Int):=by
    have l:=Fv (m% 128) (iI _ (by omega));have x:(c.toNat:Int)=((m% 128+128:Nat):Int):=by
     rw[j,UInt8.toNat_ofNat'];have:=iI m (show 0<128 by omega);omega
    rw[x,<-l];simp
   have F:=aa j;clear j
   have O:Hid (∃d,f=d+1):=by
    refine⟨f- 1,?_⟩;rcases dh f with rfl| h
    ·have:=p.o;simp at this;omega
    ·omega
   go_wp2_with (at_builtin;refine kF _ rfl (.tmp 12) (.tmp 17) 139 rfl w.heap.size 5 (.int .u8 0) 1 1 underlying139 ku rfl (by decide) u4 _ _ rfl (u.o.alloc _) _ _ 1 1 (bys [c]) rfl (Rd.lit _ _ _ rfl (ed _) rfl) (tG _) (by unfold maxLen;omega) (by omega) (by simp;omega) ?_;intro M t b k q);have R:∃d,f=d+1/\m/ 128<128^ (d+1)/\(a++[c]).length+d=3/\eP n=(a++[c])++ig d (m/ 128)/\t.ownsRow w.heap.size 5 1 M (a++[c]).length (bys (a++[c]))/\abQ w t:=by
    obtain⟨d,rfl⟩:=O.o;have l:=p.o;have x:=Q.o;refine⟨d,rfl,?_,by simp;omega,?_,?_,kz (i.alloc (by omega) _) k (by simp;omega) (λg D=>(cX u.o g D).1)⟩
    ·rw[Nat.pow_succ]at l;exact iJ (by rw[eV];exact l)
    ·rw[C.o,ig,Fl (by omega),F.o];simp
    ·simpa [bys]using b
   have S:=aa R;clear b k q R;go_wp2;go_roundw
   case rel=>
    obtain⟨d,_,l,x,U,H,V⟩:=S.o;exact⟨m/ 128,d,a++[c],by omega,l,x,by simp,U,H,V⟩
   case measure=>simp[intOf];omega
  ·have Y:(m:Int)<128:=by omega
   obtain⟨c,j⟩:∃c,c=UInt8.ofNat m:=⟨_,rfl⟩;have I:c.toNat=m:=by rw[j,UInt8.toNat_ofNat'];omega
   have r:eP n=a++[c]:=by
    rw[C.o,j];cases f with
    | zero=>rfl
    | succ f=>rw[ig,if_pos (by omega)]
   have G:=aa r;clear j r C p;subst I;go_wp2_with (at_builtin;refine kF _ rfl (.tmp 19) (.tmp 22) 139 rfl w.heap.size 5 (.int .u8 0) 1 1 underlying139 ku rfl (by decide) u4 _ _ rfl (u.o.alloc _) _ _ 1 1 (bys [c]) rfl (Rd.lit _ _ _ rfl (ed _) rfl) (tG _) (by unfold maxLen;omega) (by omega) (by simp;omega) ?_;intro M t b k q;have y:=kz (i.alloc (by omega) _) k (by simp;omega) (λg D=>(cX u.o g D).1);obtain⟨A,T,rfl,_,K⟩:=jK b;have E:Rd t t.heap.size 1 A (a.length+1) (bys (a++[c])):=(by simpa [bys]using K);have N:=ni (P:=prog) 139 9 5 underlying139 underlying5 underlying9 T E);go_ret2;exact⟨by rw[G.o];rfl,y⟩
theorem xZ:∀(f m n k:Nat) (rest:List UInt8),k+f<=3->m<128^ (f+1)->(0<k->0<m)->rv (ig f m++rest) n k=(n+m*2^ (7*k),k+(ig f m).length,0)
 | 0,m,n,k,rest,hk,hm,hp=>by
   have h1:m<128:=by simpa using hm
   have a:(UInt8.ofNat m).toNat=m:=by rw[UInt8.toNat_ofNat'];omega
   show rv (UInt8.ofNat m :: rest) n k=_;rw[rv,a,Fl (by omega),Fl (by omega)];unfold pushN;rw[a,Nat.mod_eq_of_lt h1];rfl
 | f+1,m,n,k,rest,hk,hm,hp=>by
   by_cases h1:m<128
   ·have a:(UInt8.ofNat m).toNat=m:=by rw[UInt8.toNat_ofNat'];omega
    rw[ig,if_pos h1];show rv (UInt8.ofNat m :: rest) n k=_;rw[rv,a,Fl (by omega),Fl (by omega)];unfold pushN;rw[a,Nat.mod_eq_of_lt h1];rfl
   ·have a:(UInt8.ofNat (m% 128+128)).toNat=m% 128+128:=by rw[UInt8.toNat_ofNat'];omega
    rw[ig,Fl h1];show rv (UInt8.ofNat (m% 128+128) :: (ig f (m/ 128)++rest)) n k=_;have b:m/ 128<128^ (f+1):=by
     rw[Nat.pow_succ]at hm;exact iJ (by rw[eV];exact hm)
    rw[rv,a,if_pos (by omega),Fl (by omega),xZ f (m/ 128) _ (k+1) rest (by omega) b (λ_=>by omega)];unfold pushN;rw[a,bM,show(m% 128+128) % 128=m% 128 by omega,show 7*(k+1)=7*k+7 by omega,Nat.pow_add];refine Prod.ext ?_ (Prod.ext ?_ rfl)
    ·show n+m% 128*2^ (7*k)+m/ 128*(2^ (7*k)*2^ 7)=n+m*2^ (7*k);have c:=Nat.div_add_mod m 128;generalize 2^ (7*k)=X at*;generalize m/ 128=q at*;generalize m% 128=r at*;subst c;rw[iK,show(2:Nat) ^ 7=128 by rfl,eV X 128,<-Nat.mul_assoc,eV q 128];omega
    ·show k+1+_=k+(_+1);omega
theorem Zp(n:Nat)(hn:n<=268435455)(rest:List UInt8):YT (eP n++rest)=(n,(eP n).length,0):=by
 unfold YT eP;rw[xZ 3 n 0 0 rest (by omega) (by simp;omega) (λh=>by omega)];simp
theorem ya:∀(l:List UInt8) (n k:Nat),(rv l n k).2.1<=k+l.length
 | [],n,k=>by simp[rv]
 | b :: l,n,k=>by
   rw[rv];split
   ·split
    ·simp
    ·have:=ya l (pushN n k b) (k+1);simp;omega
   ·split
    ·simp
    ·simp<;>omega
theorem jH(l:List UInt8):(YT l).2.1<=l.length:=by
 have:=ya l 0 0;unfold YT;omega
