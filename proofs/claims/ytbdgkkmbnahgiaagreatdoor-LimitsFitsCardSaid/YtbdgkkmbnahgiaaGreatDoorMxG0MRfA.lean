/- A part of what the laws stand on: MRfA. -/
import Derived.Test.YtbdgkkmbnahgiaaGreatDoorMxG0PubD
set_option maxRecDepth 10000
set_option maxHeartbeats 8000000
namespace Go.Proofs.YtbdgkkmbnahgiaaGreatDoor
open Go.RowKit Go.Proofs.Tryz
theorem LG(n:Nat):(eP n).length=if n<128 then 1 else if n<16384 then 2 else if n<2097152 then 3 else 4:=by
 unfold eP
 by_cases h1:n<128
 ·simp[ig,h1]
 ·rw[ae h1]
  by_cases h2:n<16384
  ·have:n/ 128<128:=by omega
   simp[ig,h1,h2,this]
  ·rw[ae h2];have a2:¬n/ 128<128:=by omega
   by_cases h3:n<2097152
   ·have:n/ 128/ 128<128:=by omega
    simp[ig,h1,a2,h3,this]
   ·have:¬n/ 128/ 128<128:=by omega
    simp[ig,h1,a2,h3,this]
theorem LH(f n:Nat):1<=(ig f n).length:=by
 cases f with
 | zero=>simp[ig]
 | succ f=>unfold ig;split<;>simp
theorem Lu(n:Nat)(w:World)(hn:n<=268435455):
  Calls prog 192 #[.int .i64 n] w fun e w'=>e= .returned (.int .i64 ((eP n).length:Nat))/\w=w':=by
 have HL:=aa (LG n);have d0:decide ((n:Int)<0)=false:=ah (by omega);have dm:decide ((268435455:Int)<(n:Int))=false:=ah (by omega);clear hn
 by_cases a1:n<128
 ·have HX:Hid ((eP n).length=1):=aa (by rw[HL.o,if_pos a1]);have b1:decide ((n:Int)<128)=true:=au (by omega);clear a1;go_enter func192,ntmps192;go_wp2;go_ret;exact⟨by rw[HX.o];rfl,rfl⟩
 ·have b1:decide ((n:Int)<128)=false:=ah (by omega)
  by_cases a2:n<16384
  ·have HX:Hid ((eP n).length=2):=aa (by rw[HL.o,ae a1,if_pos a2]);have b2:decide ((n:Int)<16384)=true:=au (by omega);clear a1 a2;go_enter func192,ntmps192;go_wp2;go_ret;exact⟨by rw[HX.o];rfl,rfl⟩
  ·have b2:decide ((n:Int)<16384)=false:=ah (by omega)
   by_cases a3:n<2097152
   ·have HX:Hid ((eP n).length=3):=aa (by rw[HL.o,ae a1,ae a2,if_pos a3]);have b3:decide ((n:Int)<2097152)=true:=au (by omega);clear a1 a2 a3;go_enter func192,ntmps192;go_wp2;go_ret;exact⟨by rw[HX.o];rfl,rfl⟩
   ·have HX:Hid ((eP n).length=4):=aa (by rw[HL.o,ae a1,ae a2,ae a3]);have b3:decide ((n:Int)<2097152)=false:=ah (by omega);clear a1 a2 a3;go_enter func192,ntmps192;go_wp2;go_ret;exact⟨by rw[HX.o];rfl,rfl⟩
theorem IB(n:Nat)(w:World)(hn:n<=268435455):
  Calls prog 134 #[.int .i64 n] w fun e w'=>e= .returned (.tuple #[.string ⟨(eP n).toArray⟩,.int .i64 0])/\Below w.heap.size w w':=by
 have HN:=aa hn;clear hn;have hpos:=LH 3 n;have hle:=mO 3 n;obtain⟨sz,hsz⟩:∃sz,(eP n).length=sz:=⟨_,rfl⟩;have HSZ:=aa hsz;rw[show ig 3 n=eP n from rfl,hsz]at hpos hle;clear hsz;have e0:((sz:Int)==0)=false:=ar.2 (by omega);go_enter func134,ntmps134
 go_wp2_with fail
 refine(Lu n _ HN.o).mono ?_;rintro e w1 ⟨rfl,rfl⟩;rw[HSZ.o];go_wp2
 go_loopw [0,5,6] (fun v o i wr=>∃(m f k:Nat) (pre:List UInt8),k<=sz/\i= .int .i64 k/\v= .int .i64 m/\pre.length=k/\(k<sz->k+f=3/\m<128^ (f+1)/\eP n=pre++ig f m)/\(k=sz->eP n=pre)/\wr.ownsRow w.heap.size 5 1 o pre.length (bys pre)/\Below w.heap.size w wr) (fun _ _ i _=>sz- (intOf i).toNat)
 case atStart=>exact⟨n,3,0,[],by omega,rfl,rfl,rfl,fun _=>⟨rfl,by have:=HN.o;simp;omega,rfl⟩,fun h=>by omega,dD _ _ _ _,aq _ _⟩
 case round=>
  obtain⟨m,f,k,pre,hk,rfl,rfl,hpl,hlo,heq,hown,hbel⟩:=hrel;have HPL:=aa hpl;have HLO:=aa hlo;have HEQ:=aa heq;have HOWN:=aa hown
  clear hpl hlo heq hown
  by_cases hlt:k<sz
  ·obtain⟨h1,h2,h3⟩:=HLO.o hlt;have hm:m<268435456:=by
    have:128^ (f+1)<=128^ 4:=df (by omega) (by omega);have h4:(128:Nat) ^ 4=268435456:=by decide
    omega
   have hmi:(0:Int)<=(m:Int):=by omega
   have hlen:sz=k+(ig f m).length:=by rw[<-HSZ.o,h3,List.length_append,HPL.o]
   have H1:=aa h1;have H2:=aa h2;have H3:=aa h3
   have HMB:=aa hm;clear h1 h2 h3 hm;have hk3:pre.length<=3:=by have:=HPL.o;have:=H1.o;omega
   have hbs:=hbel.size
   by_cases hmore:128<=m
   ·obtain⟨f',rfl⟩:∃f',f=f'+1:=by
     refine⟨f- 1,?_⟩;rcases dh f with rfl| h
     ·have:=H2.o;simp at this;omega
     ·omega
    have hvf:ig (f'+1) m=UInt8.ofNat (m% 128+128) :: ig f' (m/ 128):=by rw[ig,ae (by omega)]
    have hp:=LH f' (m/ 128);rw[hvf,bM]at hlen;obtain⟨b,hb⟩:∃b,b=UInt8.ofNat (m% 128+128):=⟨_,rfl⟩;have hbn:(b.toNat:Int)=(m:Int) % 128+128:=by rw[hb,UInt8.toNat_ofNat'];omega
    have hu1:IntKind.u8.wrap ((m:Int) % 128)=(m:Int) % 128:=by rw[GM];omega
    have hu2:IntKind.u8.wrap ((m:Int) % 128+128)=(b.toNat:Int):=by rw[hbn,GM];omega
    have d1:(k:Int)+1<(sz:Int):=by omega
    have HV:Hid (eP n=(pre++[b])++ig f' (m/ 128)):=aa (by rw[H3.o,hvf,hb];simp);have HM:Hid (m/ 128<128^ (f'+1)):=aa (by
     have:=H2.o;rw[Nat.pow_succ]at this;exact iJ (by rw[eV];exact this))
    have HLEN:=aa hlen;clear hvf hb hbn hlen hp
    go_wp2_with (at_builtin;refine kF _ rfl (.tmp 28) (.tmp 30) 80 rfl w.heap.size 5 (.int .u8 0) 1 1 underlying80 ku rfl (by decide) u5 _ _ rfl (HOWN.o.alloc _) _ _ 1 1 (bys [b]) rfl (Rd.lit _ _ _ rfl (ed _) rfl) (tG _) (by unfold maxLen;omega) (by omega) (by simp;omega) ?_;intro v' w3 hown3 hg3 hat3)
    have hbel3:=kz (hbel.alloc (by omega) _) hg3 (by simp;omega) (fun g hg=>(cX HOWN.o g hg).1);have HO3:Hid (w3.ownsRow w.heap.size 5 1 v' (pre++[b]).length (bys (pre++[b]))):=aa (by simpa [bys]using hown3);clear hown3 hg3 hat3;go_wp2
    go_roundw
    case rel=>
     exact⟨m/ 128,f',k+1,pre++[b],by omega,by go_num,congrArg (Value.int .i64) (by have:=HMB.o;unfold wrap64;omega),by rw[List.length_append,HPL.o];rfl,fun _=>⟨by have:=H1.o;omega,HM.o,HV.o⟩,fun h=>by omega,HO3.o,hbel3⟩
    case measure=>simp[intOf];omega
   ·have hvf:ig f m=[UInt8.ofNat m]:=by
     cases f with
     | zero=>rfl
     | succ f=>rw[ig,if_pos (by omega)]
    rw[hvf]at hlen;simp at hlen;obtain⟨b,hb⟩:∃b,b=UInt8.ofNat m:=⟨_,rfl⟩;have hbn:(b.toNat:Int)=(m:Int) % 128:=by rw[hb,UInt8.toNat_ofNat'];omega
    have hu1:IntKind.u8.wrap ((m:Int) % 128)=(b.toNat:Int):=by rw[hbn,GM];omega
    have HML:Hid (m<128):=aa (by omega);have d1:(sz:Int)<=(k:Int)+1:=by omega
    have HV:Hid (eP n=pre++[b]):=aa (by rw[H3.o,hvf,hb]);have HLEN:=aa hlen;clear hvf hb hbn hlen hmore
    go_wp2_with (at_builtin;refine kF _ rfl (.tmp 28) (.tmp 30) 80 rfl w.heap.size 5 (.int .u8 0) 1 1 underlying80 ku rfl (by decide) u5 _ _ rfl (HOWN.o.alloc _) _ _ 1 1 (bys [b]) rfl (Rd.lit _ _ _ rfl (ed _) rfl) (tG _) (by unfold maxLen;omega) (by omega) (by simp;omega) ?_;intro v' w3 hown3 hg3 hat3)
    have hbel3:=kz (hbel.alloc (by omega) _) hg3 (by simp;omega) (fun g hg=>(cX HOWN.o g hg).1);have HO3:Hid (w3.ownsRow w.heap.size 5 1 v' (pre++[b]).length (bys (pre++[b]))):=aa (by simpa [bys]using hown3);clear hown3 hg3 hat3;go_wp2
    go_roundw
    case rel=>
     exact⟨m/ 128,f,k+1,pre++[b],by omega,by go_num,congrArg (Value.int .i64) (by have:=HMB.o;unfold wrap64;omega),by rw[List.length_append,HPL.o];rfl,fun h=>by have:=HLEN.o;omega,fun _=>HV.o,HO3.o,hbel3⟩
    case measure=>simp[intOf];omega
  ·obtain rfl:k=sz:=by omega
   have HV:=aa (HEQ.o rfl);obtain⟨A,cp,rfl,_,hrd⟩:=jK HOWN.o;have hconv:=ni (P:=prog) 80 9 5 underlying80 underlying5 underlying9 cp hrd;clear hrd;go_wp2;go_ret2;exact⟨by rw[HV.o];rfl,hbel⟩
theorem Np{n k m:Nat}(hm:m+1<=k)(hk:k<=8):bys ((da n k).take (k- m))=bys ((da n k).take (k- (m+1)))++[.int .u8 ((n:Int) / 2^ (8*m) % 256)]:=by
 have e:k- m=(k- (m+1))+1:=by omega
 have hl:k- (m+1)<(da n k).length:=by rw[fM];omega
 rw[e,fE hl,bys,Ii];have hb:(da n k)[k- (m+1)]=UInt8.ofNat (n/ 2^ (8*m)):=by
  simp only[da,List.getElem_map,List.getElem_range];rw[if_pos (by omega),show k- 1- (k- (m+1))=m by omega]
 rw[hb];simp[bys,UInt8.toNat_ofNat']
theorem GV(n k:Nat)(w:World)(hn:n<18446744073709551616)(hk:0<k)(hk8:k<=8):
  Calls prog 135 #[.int .u64 n,.int .i64 k] w fun e w'=>e= .returned (.string ⟨(da n k).toArray⟩)/\Below w.heap.size w w':=by
 have HN:=aa hn;clear hn
 have HK:=aa hk8;have b1:(0:Int)<(k:Int):=by omega
 have b2:(k:Int)<=8:=by omega
 go_enter func135,ntmps135;go_wp2
 go_loopw [5,6] (fun out i wr=>∃j:Nat,j<=k/\i= .int .i64 ((j:Int) - 1)/\wr.ownsRow w.heap.size 5 1 out (k- j) (bys ((da n k).take (k- j)))/\Below w.heap.size w wr) (fun _ i _=>(intOf i+1).toNat)
 case atStart=>exact⟨k,ac _,by go_num,by rw[Nat.sub_self];exact dD _ _ _ _,aq _ _⟩
 case round=>
  obtain⟨j,hj,rfl,hown,hbel⟩:=hrel;have HO:=aa hown;clear hown
  by_cases hlt:0<j
  ·obtain⟨m,rfl⟩:∃m,j=m+1:=⟨j- 1,by omega⟩;have e1:(((m+1:Nat):Int) - 1)=(m:Int):=by omega
   rw[e1];clear e1;have c1:(m:Int)<8:=by omega
   have c0:(0:Int)<=(m:Int):=by omega
   have HM:Hid (m+1<=k):=aa hj;have HB:=aa hbel;clear hj hlt hbel
   go_wp2_with (at_builtin;refine kF _ rfl (.tmp 24) (.tmp 26) 80 rfl w.heap.size 5 (.int .u8 0) 1 1 underlying80 ku rfl (by decide) u5 _ _ rfl (HO.o.alloc _) _ _ 1 1 [_] rfl (Rd.lit _ _ _ rfl (ed _) rfl) (by intro u hu;simp at hu;subst hu;rfl) (by have:=HM.o;unfold maxLen;omega) (by have:=HM.o;omega) (by have:=HB.o.size;simp;omega) ?_;intro v' w3 hown3 hg3 hat3)
   go_roundw
   case rel=>
    have e2:k- (m+1)+1=k- m:=by have:=HM.o;omega
    refine⟨m,by have:=HM.o;omega,by go_num,?_,kz (HB.o.alloc HB.o.size _) hg3 (by have:=HB.o.size;simp;omega) (fun g hg=>(cX HO.o g hg).1)⟩;rw[e2]at hown3;have e3:bys ((da n k).take (k- m))=bys ((da n k).take (k- (m+1)))++[.int .u8 ((n:Int) / 2^ (8*m) % 256)]:=Np HM.o HK.o;rw[e3];exact hown3
   case measure=>simp[intOf]
  ·obtain rfl:j=0:=by omega
   obtain⟨A,c,rfl,_,hrd⟩:=jK HO.o;have hconv:=ni (P:=prog) 80 9 5 underlying80 underlying5 underlying9 c hrd;have HTK:Hid ((da n k).take (k- 0)=da n k):=aa (by rw[bt (by rw[fM];omega)]);rw[HTK.o]at hconv;simp only[Nat.sub_zero]at hconv;clear hrd;go_wp2;go_ret;exact⟨rfl,hbel⟩
abbrev RCT:TypeId:=203
def IC(w:World)(g:Nat)(t:ByteArray)(a:Nat)(e:Int):Prop:=Bk w g RCT (Am t a e)/\a<=t.size/\t.size<=4611686018427387904
theorem IC.cells{w:World}{g a:Nat}{t:ByteArray}{e:Int}(h:IC w g t a e):(w.cell? ⟨g,0,none⟩=some (.string t)/\w.cell? ⟨g,1,none⟩=some (.int .i64 a)/\w.cell? ⟨g,2,none⟩=some (.int .i64 e))/\w.frozen? ⟨g,0,none⟩=false/\w.frozen? ⟨g,1,none⟩=false/\w.frozen? ⟨g,2,none⟩=false:=h.1.three
theorem IC.lt{w:World}{g a:Nat}{t:ByteArray}{e:Int}(h:IC w g t a e):g<w.heap.size:=h.1.lt
theorem IC.below{w w':World}{g a:Nat}{t:ByteArray}{e:Int}(h:IC w g t a e)(hb:Below w.heap.size w w'):IC w' g t a e:=⟨h.1.below hb h.lt,h.2⟩
theorem IC.drewN{w:World}{g a:Nat}{t:ByteArray}{e:Int}(h:IC w g t a e)(n:Nat):IC (w.drewN n) g t a e:=⟨h.1.drewN n,h.2⟩
def Hf:List (Nat×List Int):=
 [(1,[3,16]),(2,[3,16]),(3,[3,16]),(8,[3,16]),(9,[3,16]),(11,[3,8]),(17,[1,2,14]),(18,[2]),(26,[2]),(19,[2]),(21,[1,2,15]),(22,[1,2,15]),(23,[1]),(25,[1]),(24,[16]),(28,[2,14]),
  (31,[2,4,5,6,7,9,11,14,15]),(33,[1,2]),(34,[1,2]),(35,[3]),(36,[2]),(37,[2]),(40,[2]),(41,[2]),(42,[2]),(38,[1,2,3,4,5,6,7,8,9,10,11,14,15,16]),(39,[1,2])]
def gN(id:Int):List Int:=((Hf.find? fun p=>(p.1:Int)==id).map (·.2)).getD []
def Hp(id:Int)(A:Option Addr)(c:Nat):Value:=.agg #[.int .i64 (cr id).shape,.slice A (gN id).length c,.int .u32 (cr id).least,.int .u32 (cr id).most]
abbrev RwT:TypeId:=297
def GF(id:Int)(w:World)(e:Ending)(w':World):Prop:=∃A c,e= .returned (Hp id A c)/\Rd w' w'.heap.size 1 A (gN id).length (iv (gN id))/\Below w.heap.size w w'
theorem Hx(A:Option Addr)(n c:Nat)(w:World):Calls prog 384 #[.slice A n c] w fun e w'=>e= .returned (.agg #[.int .i64 1,.slice A n c,.int .u32 0,.int .u32 1])/\Below w.heap.size w w':=by
 go_enter func384,ntmps384;go_wp2;exact av (v:=.agg #[.int .i64 1,.slice A n c,.int .u32 0,.int .u32 1]) (by simp[results,Tryz.results384,go_sem]) rfl ⟨rfl,(aq _ _).alloc (ac _) _⟩
theorem Jz(A:Option Addr)(n c:Nat)(l:Int)(w:World):Calls prog 387 #[.slice A n c,.int .u32 l] w fun e w'=>e= .returned (.agg #[.int .i64 2,.slice A n c,.int .u32 l,.int .u32 65535])/\Below w.heap.size w w':=by
 go_enter func387,ntmps387;go_wp2;exact av (v:=.agg #[.int .i64 2,.slice A n c,.int .u32 l,.int .u32 65535]) (by simp[results,Tryz.results387,go_sem]) rfl ⟨rfl,(aq _ _).alloc (ac _) _⟩
theorem Jh(A:Option Addr)(n c:Nat)(l:Int)(w:World):Calls prog 385 #[.slice A n c,.int .u32 l] w fun e w'=>e= .returned (.agg #[.int .i64 3,.slice A n c,.int .u32 l,.int .u32 4294967295])/\Below w.heap.size w w':=by
 go_enter func385,ntmps385;go_wp2;exact av (v:=.agg #[.int .i64 3,.slice A n c,.int .u32 l,.int .u32 4294967295]) (by simp[results,Tryz.results385,go_sem]) rfl ⟨rfl,(aq _ _).alloc (ac _) _⟩
theorem Hu(A:Option Addr)(n c:Nat)(k:Int)(w:World):Calls prog 386 #[.int .i64 k,.slice A n c] w fun e w'=>e= .returned (.agg #[.int .i64 k,.slice A n c,.int .u32 0,.int .u32 0])/\Below w.heap.size w w':=by
 go_enter func386,ntmps386;go_wp2;exact av (v:=.agg #[.int .i64 k,.slice A n c,.int .u32 0,.int .u32 0]) (by simp[results,Tryz.results386,go_sem]) rfl ⟨rfl,(aq _ _).alloc (ac _) _⟩
theorem bi(w:World)(o:Obj):(w.alloc o).heap.size=w.heap.size+1:=by simp
theorem Rd.of_bk{w:World}{g n:Nat}{t:TypeId}{cs:Array Value}{xs:List Value}(h:Bk w g t cs)(hx:cs.toList=xs)(hn:xs.length=n):Rd w w.heap.size 1 (some ⟨g,0,none⟩) n xs:=by
 subst hx hn;refine Rd.of_addr (by omega) h.lt fun j u hu=>?_;have e:(⟨g,0,none⟩:Addr).add j=⟨g,j,none⟩:=by simp[Addr.add];intro e;exact e.symm
 rw[e,h.cell,<-hu];simp
theorem GC{w x:World}{id:Int}{cs:Array Value}{t:TypeId}{n:Nat}{sh le mo:Int}{a b c d:Value}{ks:List Int}(hk:gN id=ks)(hc:cs.toList=iv ks)(hn:ks.length=n)(hr:((cr id).shape:Int)=sh/\((cr id).least:Int)=le/\((cr id).most:Int)=mo)
  (hs:Bk x (w.heap.size+1) t cs)(hb:Below w.heap.size w x):
  GF id w (.returned (.agg #[.int .i64 sh,.slice (some ⟨w.heap.size+1,0,none⟩) n n,.int .u32 le,.int .u32 mo])) ((((x.setCell ⟨w.heap.size,0,none⟩ a).setCell ⟨w.heap.size,1,none⟩ b).setCell ⟨w.heap.size,2,none⟩ c).setCell ⟨w.heap.size,3,none⟩ d):=by
 obtain⟨rfl,rfl,rfl⟩:=hr;subst hk hn;exact⟨_,_,rfl,Rd.of_bk (hs.put_other (by omega)) hc (Qg _),cD hb (ac _) _ _ _ _⟩
theorem fF{fn:Func}{p:Tmp}(hr:fn.results= #[.cell p RwT])(tmps:Array Value){w:World}{g:Nat}{a b c d:Value}(hp:tmps.getD p undef= .pointer (some ⟨g,0,none⟩))(hb:Bk w g RwT #[a,b,c,d]):(results fn tmps).run prog w= .ok (.agg #[a,b,c,d]) w:=by
 obtain⟨⟨c0,c1,c2,c3⟩,-⟩:=hb.four;rw[Jf]at hp;simp only[results,hr];simp[hp,go_sem,c0,c1,c2,c3]
theorem Qq(w:World)(cs:Array Value):Hid (Bk ((w.alloc (.cells #[.int .i64 0,.slice none 0 0,.int .u32 0,.int .u32 0] RwT)).alloc (.cells cs 3)) w.heap.size RwT #[.int .i64 0,.slice none 0 0,.int .u32 0,.int .u32 0])/\
  Hid (Bk ((w.alloc (.cells #[.int .i64 0,.slice none 0 0,.int .u32 0,.int .u32 0] RwT)).alloc (.cells cs 3)) (w.heap.size+1) 3 cs)/\
  Hid (Below w.heap.size w ((w.alloc (.cells #[.int .i64 0,.slice none 0 0,.int .u32 0,.int .u32 0] RwT)).alloc (.cells cs 3))):=by
 have HS:=Bk.fresh (w.alloc (.cells #[.int .i64 0,.slice none 0 0,.int .u32 0,.int .u32 0] RwT)) 3 cs;rw[bi]at HS;exact⟨aa ((Bk.fresh w RwT #[.int .i64 0,.slice none 0 0,.int .u32 0,.int .u32 0]).alloc _),aa HS,aa (((aq w.heap.size w).alloc (ac _) _).alloc (by simp) _)⟩
theorem Qs{w x y:World}{g q:Nat}{t u:TypeId}{cs ds:Array Value}(HR:Hid (Bk x g t cs))(HS:Hid (Bk x q u ds))(HB:Hid (Below w.heap.size w x))(hb:Below x.heap.size x y):Hid (Bk y g t cs)/\Hid (Bk y q u ds)/\Hid (Below w.heap.size w y):=
 ⟨aa (HR.o.below hb HR.o.lt),aa (HS.o.below hb HS.o.lt),aa (HB.o.trans (hb.mono HB.o.size))⟩
theorem Qf(w:World):Calls prog 372 #[.int .i64 1] w (GF 1 w):=by
 obtain⟨HR,HS,HB⟩:=Qq w #[.int .i64 3,.int .i64 16];go_enter func372,ntmps372
 go_wp2_with fail
 refine(Hx _ _ _ _).mono ?_;rintro e w1 ⟨rfl,hb⟩;obtain⟨HR1,HS1,HB1⟩:=Qs HR HS HB hb;clear hb;obtain⟨⟨c0,c1,c2,c3⟩,f0,f1,f2,f3⟩:=HR1.o.four;go_wp2;refine av (fF rfl _ rfl HR1.o.put_four) rfl (GC (ks:=[3,16]) (by decide+kernel) rfl rfl (by decide+kernel) HS1.o HB1.o)
theorem Qe(w:World):Calls prog 372 #[.int .i64 2] w (GF 2 w):=by
 obtain⟨HR,HS,HB⟩:=Qq w #[.int .i64 3,.int .i64 16];go_enter func372,ntmps372
 go_wp2_with fail
 refine(Jh _ _ _ 0 _).mono ?_;rintro e w1 ⟨rfl,hb⟩;obtain⟨HR1,HS1,HB1⟩:=Qs HR HS HB hb;clear hb;obtain⟨⟨c0,c1,c2,c3⟩,f0,f1,f2,f3⟩:=HR1.o.four;go_wp2;refine av (fF rfl _ rfl HR1.o.put_four) rfl (GC (ks:=[3,16]) (by decide+kernel) rfl rfl (by decide+kernel) HS1.o HB1.o)
theorem Qd(w:World):Calls prog 372 #[.int .i64 3] w (GF 3 w):=by
 obtain⟨HR,HS,HB⟩:=Qq w #[.int .i64 3,.int .i64 16];go_enter func372,ntmps372
 go_wp2_with fail
 refine(Hu _ _ _ 5 _).mono ?_;rintro e w1 ⟨rfl,hb⟩;obtain⟨HR1,HS1,HB1⟩:=Qs HR HS HB hb;clear hb;obtain⟨⟨c0,c1,c2,c3⟩,f0,f1,f2,f3⟩:=HR1.o.four;go_wp2;refine av (fF rfl _ rfl HR1.o.put_four) rfl (GC (ks:=[3,16]) (by decide+kernel) rfl rfl (by decide+kernel) HS1.o HB1.o)
theorem Qc(w:World):Calls prog 372 #[.int .i64 8] w (GF 8 w):=by
 obtain⟨HR,HS,HB⟩:=Qq w #[.int .i64 3,.int .i64 16];go_enter func372,ntmps372
 go_wp2_with fail
 refine(Hu _ _ _ 5 _).mono ?_;rintro e w1 ⟨rfl,hb⟩;obtain⟨HR1,HS1,HB1⟩:=Qs HR HS HB hb;clear hb;obtain⟨⟨c0,c1,c2,c3⟩,f0,f1,f2,f3⟩:=HR1.o.four;go_wp2;refine av (fF rfl _ rfl HR1.o.put_four) rfl (GC (ks:=[3,16]) (by decide+kernel) rfl rfl (by decide+kernel) HS1.o HB1.o)
theorem Qb(w:World):Calls prog 372 #[.int .i64 9] w (GF 9 w):=by
 obtain⟨HR,HS,HB⟩:=Qq w #[.int .i64 3,.int .i64 16];go_enter func372,ntmps372
 go_wp2_with fail
 refine(Hu _ _ _ 6 _).mono ?_;rintro e w1 ⟨rfl,hb⟩;obtain⟨HR1,HS1,HB1⟩:=Qs HR HS HB hb;clear hb;obtain⟨⟨c0,c1,c2,c3⟩,f0,f1,f2,f3⟩:=HR1.o.four;go_wp2;refine av (fF rfl _ rfl HR1.o.put_four) rfl (GC (ks:=[3,16]) (by decide+kernel) rfl rfl (by decide+kernel) HS1.o HB1.o)
theorem PD(w:World):Calls prog 372 #[.int .i64 11] w (GF 11 w):=by
 obtain⟨HR,HS,HB⟩:=Qq w #[.int .i64 3,.int .i64 8];go_enter func372,ntmps372;have HR1:=HR;have HS1:=HS;have HB1:=HB
 go_wp2;refine av (v:=.agg #[.int .i64 4,.slice (some ⟨w.heap.size+1,0,none⟩) 2 2,.int .u32 1,.int .u32 268435455]) (by simp[results,Tryz.results372,go_sem]) rfl ⟨_,_,rfl,?_,((aq w.heap.size w).alloc (ac _) _).alloc (by simp) _⟩;have hb:=Bk.fresh (w.alloc (.cells #[.int .i64 4,.slice (some ⟨w.heap.size+1,0,none⟩) 2 2,.int .u32 1,.int .u32 268435455] RwT)) 3 #[.int .i64 3,.int .i64 8];rw[bi]at hb;exact Rd.of_bk hb rfl rfl
theorem PC(w:World):Calls prog 372 #[.int .i64 17] w (GF 17 w):=by
 obtain⟨HR,HS,HB⟩:=Qq w #[.int .i64 1,.int .i64 2,.int .i64 14];go_enter func372,ntmps372
 go_wp2_with fail
 refine(Jh _ _ _ 0 _).mono ?_;rintro e w1 ⟨rfl,hb⟩;obtain⟨HR1,HS1,HB1⟩:=Qs HR HS HB hb;clear hb;obtain⟨⟨c0,c1,c2,c3⟩,f0,f1,f2,f3⟩:=HR1.o.four;go_wp2;refine av (fF rfl _ rfl HR1.o.put_four) rfl (GC (ks:=[1,2,14]) (by decide+kernel) rfl rfl (by decide+kernel) HS1.o HB1.o)
theorem PA(w:World):Calls prog 372 #[.int .i64 18] w (GF 18 w):=by
 obtain⟨HR,HS,HB⟩:=Qq w #[.int .i64 2];go_enter func372,ntmps372
 go_wp2_with fail
 refine(Hu _ _ _ 5 _).mono ?_;rintro e w1 ⟨rfl,hb⟩;obtain⟨HR1,HS1,HB1⟩:=Qs HR HS HB hb;clear hb;obtain⟨⟨c0,c1,c2,c3⟩,f0,f1,f2,f3⟩:=HR1.o.four;go_wp2;refine av (fF rfl _ rfl HR1.o.put_four) rfl (GC (ks:=[2]) (by decide+kernel) rfl rfl (by decide+kernel) HS1.o HB1.o)
theorem Pt(w:World):Calls prog 372 #[.int .i64 26] w (GF 26 w):=by
 obtain⟨HR,HS,HB⟩:=Qq w #[.int .i64 2];go_enter func372,ntmps372
 go_wp2_with fail
 refine(Hu _ _ _ 5 _).mono ?_;rintro e w1 ⟨rfl,hb⟩;obtain⟨HR1,HS1,HB1⟩:=Qs HR HS HB hb;clear hb;obtain⟨⟨c0,c1,c2,c3⟩,f0,f1,f2,f3⟩:=HR1.o.four;go_wp2;refine av (fF rfl _ rfl HR1.o.put_four) rfl (GC (ks:=[2]) (by decide+kernel) rfl rfl (by decide+kernel) HS1.o HB1.o)
theorem Pz(w:World):Calls prog 372 #[.int .i64 19] w (GF 19 w):=by
 obtain⟨HR,HS,HB⟩:=Qq w #[.int .i64 2];go_enter func372,ntmps372
 go_wp2_with fail
 refine(Jz _ _ _ 0 _).mono ?_;rintro e w1 ⟨rfl,hb⟩;obtain⟨HR1,HS1,HB1⟩:=Qs HR HS HB hb;clear hb;obtain⟨⟨c0,c1,c2,c3⟩,f0,f1,f2,f3⟩:=HR1.o.four;go_wp2;refine av (fF rfl _ rfl HR1.o.put_four) rfl (GC (ks:=[2]) (by decide+kernel) rfl rfl (by decide+kernel) HS1.o HB1.o)
theorem Py(w:World):Calls prog 372 #[.int .i64 21] w (GF 21 w):=by
 obtain⟨HR,HS,HB⟩:=Qq w #[.int .i64 1,.int .i64 2,.int .i64 15];go_enter func372,ntmps372
 go_wp2_with fail
 refine(Hu _ _ _ 5 _).mono ?_;rintro e w1 ⟨rfl,hb⟩;obtain⟨HR1,HS1,HB1⟩:=Qs HR HS HB hb;clear hb;obtain⟨⟨c0,c1,c2,c3⟩,f0,f1,f2,f3⟩:=HR1.o.four;go_wp2;refine av (fF rfl _ rfl HR1.o.put_four) rfl (GC (ks:=[1,2,15]) (by decide+kernel) rfl rfl (by decide+kernel) HS1.o HB1.o)
theorem Px(w:World):Calls prog 372 #[.int .i64 22] w (GF 22 w):=by
 obtain⟨HR,HS,HB⟩:=Qq w #[.int .i64 1,.int .i64 2,.int .i64 15];go_enter func372,ntmps372
 go_wp2_with fail
 refine(Hu _ _ _ 6 _).mono ?_;rintro e w1 ⟨rfl,hb⟩;obtain⟨HR1,HS1,HB1⟩:=Qs HR HS HB hb;clear hb;obtain⟨⟨c0,c1,c2,c3⟩,f0,f1,f2,f3⟩:=HR1.o.four;go_wp2;refine av (fF rfl _ rfl HR1.o.put_four) rfl (GC (ks:=[1,2,15]) (by decide+kernel) rfl rfl (by decide+kernel) HS1.o HB1.o)
theorem Pw(w:World):Calls prog 372 #[.int .i64 23] w (GF 23 w):=by
 obtain⟨HR,HS,HB⟩:=Qq w #[.int .i64 1];go_enter func372,ntmps372
 go_wp2_with fail
 refine(Hx _ _ _ _).mono ?_;rintro e w1 ⟨rfl,hb⟩;obtain⟨HR1,HS1,HB1⟩:=Qs HR HS HB hb;clear hb;obtain⟨⟨c0,c1,c2,c3⟩,f0,f1,f2,f3⟩:=HR1.o.four;go_wp2;refine av (fF rfl _ rfl HR1.o.put_four) rfl (GC (ks:=[1]) (by decide+kernel) rfl rfl (by decide+kernel) HS1.o HB1.o)
theorem Pu(w:World):Calls prog 372 #[.int .i64 25] w (GF 25 w):=by
 obtain⟨HR,HS,HB⟩:=Qq w #[.int .i64 1];go_enter func372,ntmps372
 go_wp2_with fail
 refine(Hx _ _ _ _).mono ?_;rintro e w1 ⟨rfl,hb⟩;obtain⟨HR1,HS1,HB1⟩:=Qs HR HS HB hb;clear hb;obtain⟨⟨c0,c1,c2,c3⟩,f0,f1,f2,f3⟩:=HR1.o.four;go_wp2;refine av (fF rfl _ rfl HR1.o.put_four) rfl (GC (ks:=[1]) (by decide+kernel) rfl rfl (by decide+kernel) HS1.o HB1.o)
theorem Pv(w:World):Calls prog 372 #[.int .i64 24] w (GF 24 w):=by
 obtain⟨HR,HS,HB⟩:=Qq w #[.int .i64 16];go_enter func372,ntmps372
 go_wp2_with fail
 refine(Jh _ _ _ 0 _).mono ?_;rintro e w1 ⟨rfl,hb⟩;obtain⟨HR1,HS1,HB1⟩:=Qs HR HS HB hb;clear hb;obtain⟨⟨c0,c1,c2,c3⟩,f0,f1,f2,f3⟩:=HR1.o.four;go_wp2;refine av (fF rfl _ rfl HR1.o.put_four) rfl (GC (ks:=[16]) (by decide+kernel) rfl rfl (by decide+kernel) HS1.o HB1.o)
theorem Ps(w:World):Calls prog 372 #[.int .i64 28] w (GF 28 w):=by
 obtain⟨HR,HS,HB⟩:=Qq w #[.int .i64 2,.int .i64 14];go_enter func372,ntmps372
 go_wp2_with fail
 refine(Hu _ _ _ 5 _).mono ?_;rintro e w1 ⟨rfl,hb⟩;obtain⟨HR1,HS1,HB1⟩:=Qs HR HS HB hb;clear hb;obtain⟨⟨c0,c1,c2,c3⟩,f0,f1,f2,f3⟩:=HR1.o.four;go_wp2;refine av (fF rfl _ rfl HR1.o.put_four) rfl (GC (ks:=[2,14]) (by decide+kernel) rfl rfl (by decide+kernel) HS1.o HB1.o)
theorem Pq(w:World):Calls prog 372 #[.int .i64 31] w (GF 31 w):=by
 obtain⟨HR,HS,HB⟩:=Qq w #[.int .i64 2,.int .i64 4,.int .i64 5,.int .i64 6,.int .i64 7,.int .i64 9,.int .i64 11,.int .i64 14,.int .i64 15];go_enter func372,ntmps372
 go_wp2_with fail
 refine(Hu _ _ _ 5 _).mono ?_;rintro e w1 ⟨rfl,hb⟩;obtain⟨HR1,HS1,HB1⟩:=Qs HR HS HB hb;clear hb;obtain⟨⟨c0,c1,c2,c3⟩,f0,f1,f2,f3⟩:=HR1.o.four;go_wp2;refine av (fF rfl _ rfl HR1.o.put_four) rfl (GC (ks:=[2,4,5,6,7,9,11,14,15]) (by decide+kernel) rfl rfl (by decide+kernel) HS1.o HB1.o)
theorem Pp(w:World):Calls prog 372 #[.int .i64 33] w (GF 33 w):=by
 obtain⟨HR,HS,HB⟩:=Qq w #[.int .i64 1,.int .i64 2];go_enter func372,ntmps372
 go_wp2_with fail
 refine(Jz _ _ _ 1 _).mono ?_;rintro e w1 ⟨rfl,hb⟩;obtain⟨HR1,HS1,HB1⟩:=Qs HR HS HB hb;clear hb;obtain⟨⟨c0,c1,c2,c3⟩,f0,f1,f2,f3⟩:=HR1.o.four;go_wp2;refine av (fF rfl _ rfl HR1.o.put_four) rfl (GC (ks:=[1,2]) (by decide+kernel) rfl rfl (by decide+kernel) HS1.o HB1.o)
theorem Po(w:World):Calls prog 372 #[.int .i64 34] w (GF 34 w):=by
 obtain⟨HR,HS,HB⟩:=Qq w #[.int .i64 1,.int .i64 2];go_enter func372,ntmps372
 go_wp2_with fail
 refine(Jz _ _ _ 0 _).mono ?_;rintro e w1 ⟨rfl,hb⟩;obtain⟨HR1,HS1,HB1⟩:=Qs HR HS HB hb;clear hb;obtain⟨⟨c0,c1,c2,c3⟩,f0,f1,f2,f3⟩:=HR1.o.four;go_wp2;refine av (fF rfl _ rfl HR1.o.put_four) rfl (GC (ks:=[1,2]) (by decide+kernel) rfl rfl (by decide+kernel) HS1.o HB1.o)
theorem Pn(w:World):Calls prog 372 #[.int .i64 35] w (GF 35 w):=by
 obtain⟨HR,HS,HB⟩:=Qq w #[.int .i64 3];go_enter func372,ntmps372
 go_wp2_with fail
 refine(Jz _ _ _ 1 _).mono ?_;rintro e w1 ⟨rfl,hb⟩;obtain⟨HR1,HS1,HB1⟩:=Qs HR HS HB hb;clear hb;obtain⟨⟨c0,c1,c2,c3⟩,f0,f1,f2,f3⟩:=HR1.o.four;go_wp2;refine av (fF rfl _ rfl HR1.o.put_four) rfl (GC (ks:=[3]) (by decide+kernel) rfl rfl (by decide+kernel) HS1.o HB1.o)
theorem Pm(w:World):Calls prog 372 #[.int .i64 36] w (GF 36 w):=by
 obtain⟨HR,HS,HB⟩:=Qq w #[.int .i64 2];go_enter func372,ntmps372
 go_wp2_with fail
 refine(Hx _ _ _ _).mono ?_;rintro e w1 ⟨rfl,hb⟩;obtain⟨HR1,HS1,HB1⟩:=Qs HR HS HB hb;clear hb;obtain⟨⟨c0,c1,c2,c3⟩,f0,f1,f2,f3⟩:=HR1.o.four;go_wp2;refine av (fF rfl _ rfl HR1.o.put_four) rfl (GC (ks:=[2]) (by decide+kernel) rfl rfl (by decide+kernel) HS1.o HB1.o)
theorem Pj(w:World):Calls prog 372 #[.int .i64 37] w (GF 37 w):=by
 obtain⟨HR,HS,HB⟩:=Qq w #[.int .i64 2];go_enter func372,ntmps372
 go_wp2_with fail
 refine(Hx _ _ _ _).mono ?_;rintro e w1 ⟨rfl,hb⟩;obtain⟨HR1,HS1,HB1⟩:=Qs HR HS HB hb;clear hb;obtain⟨⟨c0,c1,c2,c3⟩,f0,f1,f2,f3⟩:=HR1.o.four;go_wp2;refine av (fF rfl _ rfl HR1.o.put_four) rfl (GC (ks:=[2]) (by decide+kernel) rfl rfl (by decide+kernel) HS1.o HB1.o)
theorem Pg(w:World):Calls prog 372 #[.int .i64 40] w (GF 40 w):=by
 obtain⟨HR,HS,HB⟩:=Qq w #[.int .i64 2];go_enter func372,ntmps372
 go_wp2_with fail
 refine(Hx _ _ _ _).mono ?_;rintro e w1 ⟨rfl,hb⟩;obtain⟨HR1,HS1,HB1⟩:=Qs HR HS HB hb;clear hb;obtain⟨⟨c0,c1,c2,c3⟩,f0,f1,f2,f3⟩:=HR1.o.four;go_wp2;refine av (fF rfl _ rfl HR1.o.put_four) rfl (GC (ks:=[2]) (by decide+kernel) rfl rfl (by decide+kernel) HS1.o HB1.o)
theorem Pf(w:World):Calls prog 372 #[.int .i64 41] w (GF 41 w):=by
 obtain⟨HR,HS,HB⟩:=Qq w #[.int .i64 2];go_enter func372,ntmps372
 go_wp2_with fail
 refine(Hx _ _ _ _).mono ?_;rintro e w1 ⟨rfl,hb⟩;obtain⟨HR1,HS1,HB1⟩:=Qs HR HS HB hb;clear hb;obtain⟨⟨c0,c1,c2,c3⟩,f0,f1,f2,f3⟩:=HR1.o.four;go_wp2;refine av (fF rfl _ rfl HR1.o.put_four) rfl (GC (ks:=[2]) (by decide+kernel) rfl rfl (by decide+kernel) HS1.o HB1.o)
theorem Pe(w:World):Calls prog 372 #[.int .i64 42] w (GF 42 w):=by
 obtain⟨HR,HS,HB⟩:=Qq w #[.int .i64 2];go_enter func372,ntmps372
 go_wp2_with fail
 refine(Hx _ _ _ _).mono ?_;rintro e w1 ⟨rfl,hb⟩;obtain⟨HR1,HS1,HB1⟩:=Qs HR HS HB hb;clear hb;obtain⟨⟨c0,c1,c2,c3⟩,f0,f1,f2,f3⟩:=HR1.o.four;go_wp2;refine av (fF rfl _ rfl HR1.o.put_four) rfl (GC (ks:=[2]) (by decide+kernel) rfl rfl (by decide+kernel) HS1.o HB1.o)
theorem Pi(w:World):Calls prog 372 #[.int .i64 38] w (GF 38 w):=by
 obtain⟨HR,HS,HB⟩:=Qq w #[.int .i64 1,.int .i64 2,.int .i64 3,.int .i64 4,.int .i64 5,.int .i64 6,.int .i64 7,.int .i64 8,.int .i64 9,.int .i64 10,.int .i64 11,.int .i64 14,.int .i64 15,.int .i64 16];go_enter func372,ntmps372
 go_wp2_with fail
 refine(Hu _ _ _ 7 _).mono ?_;rintro e w1 ⟨rfl,hb⟩;obtain⟨HR1,HS1,HB1⟩:=Qs HR HS HB hb;clear hb;obtain⟨⟨c0,c1,c2,c3⟩,f0,f1,f2,f3⟩:=HR1.o.four;go_wp2;refine av (fF rfl _ rfl HR1.o.put_four) rfl (GC (ks:=[1,2,3,4,5,6,7,8,9,10,11,14,15,16]) (by decide+kernel) rfl rfl (by decide+kernel) HS1.o HB1.o)
theorem Ph(w:World):Calls prog 372 #[.int .i64 39] w (GF 39 w):=by
 obtain⟨HR,HS,HB⟩:=Qq w #[.int .i64 1,.int .i64 2];go_enter func372,ntmps372
 go_wp2_with fail
 refine(Jh _ _ _ 1 _).mono ?_;rintro e w1 ⟨rfl,hb⟩;obtain⟨HR1,HS1,HB1⟩:=Qs HR HS HB hb;clear hb;obtain⟨⟨c0,c1,c2,c3⟩,f0,f1,f2,f3⟩:=HR1.o.four;go_wp2;refine av (fF rfl _ rfl HR1.o.put_four) rfl (GC (ks:=[1,2]) (by decide+kernel) rfl rfl (by decide+kernel) HS1.o HB1.o)
theorem Je{X:Type}{id:Int}{l:List (Nat×X)}(h:∀k:Nat,k∈l.map (·.1)->id≠(k:Int)):(l.find? fun p=>(p.1:Int)==id)=none:=by
 rw[List.find?_eq_none];intro p hp;have:=h p.1 (List.mem_map_of_mem hp);simp;exact fun e=>this e.symm
theorem Pd{id:Int}(h:∀k:Nat,k∈Hf.map (·.1)->id≠(k:Int))(w:World):Calls prog 372 #[.int .i64 id] w (GF id w):=by
 have hk:gN id=[]:=by unfold gN;rw[Je h];rfl
 have hr:cr id=⟨0,0,0,0⟩:=by
  unfold cr;rw[Je (fun k hk=>h k ?_)]
  ·rfl
  ·have e:∀k∈dQ.map (·.1),k∈Hf.map (·.1):=by decide+kernel
   exact e k hk
 have HK:=aa hk;have HRR:=aa hr;clear hk hr
 have n1:(id==1)=false:=ar.2 (h 1 (by decide+kernel));have n2:(id==2)=false:=ar.2 (h 2 (by decide+kernel));have n3:(id==3)=false:=ar.2 (h 3 (by decide+kernel));have n8:(id==8)=false:=ar.2 (h 8 (by decide+kernel));have n9:(id==9)=false:=ar.2 (h 9 (by decide+kernel));have n11:(id==11)=false:=ar.2 (h 11 (by decide+kernel));have n17:(id==17)=false:=ar.2 (h 17 (by decide+kernel));have n18:(id==18)=false:=ar.2 (h 18 (by decide+kernel));have n26:(id==26)=false:=ar.2 (h 26 (by decide+kernel));have n19:(id==19)=false:=ar.2 (h 19 (by decide+kernel));have n21:(id==21)=false:=ar.2 (h 21 (by decide+kernel));have n22:(id==22)=false:=ar.2 (h 22 (by decide+kernel));have n23:(id==23)=false:=ar.2 (h 23 (by decide+kernel));have n25:(id==25)=false:=ar.2 (h 25 (by decide+kernel));have n24:(id==24)=false:=ar.2 (h 24 (by decide+kernel));have n28:(id==28)=false:=ar.2 (h 28 (by decide+kernel));have n31:(id==31)=false:=ar.2 (h 31 (by decide+kernel));have n33:(id==33)=false:=ar.2 (h 33 (by decide+kernel));have n34:(id==34)=false:=ar.2 (h 34 (by decide+kernel));have n35:(id==35)=false:=ar.2 (h 35 (by decide+kernel));have n36:(id==36)=false:=ar.2 (h 36 (by decide+kernel));have n37:(id==37)=false:=ar.2 (h 37 (by decide+kernel));have n40:(id==40)=false:=ar.2 (h 40 (by decide+kernel));have n41:(id==41)=false:=ar.2 (h 41 (by decide+kernel));have n42:(id==42)=false:=ar.2 (h 42 (by decide+kernel));have n38:(id==38)=false:=ar.2 (h 38 (by decide+kernel));have n39:(id==39)=false:=ar.2 (h 39 (by decide+kernel));have HR:=aa (Bk.fresh w RwT #[.int .i64 0,.slice none 0 0,.int .u32 0,.int .u32 0]);have HB:=aa ((aq w.heap.size w).alloc (ac _) (.cells #[.int .i64 0,.slice none 0 0,.int .u32 0,.int .u32 0] RwT));clear h;go_enter func372,ntmps372;go_wp2;refine av (v:=.agg #[.int .i64 0,.slice none 0 0,.int .u32 0,.int .u32 0]) (by simp[results,Tryz.results372,go_sem]) rfl ⟨none,0,?_,?_,HB.o⟩
 ·unfold Hp;rw[HK.o,HRR.o];rfl
 ·rw[HK.o];exact Rd.nil _ _ _ _
theorem Gz(id:Int)(w:World):Calls prog 372 #[.int .i64 id] w (GF id w):=by
 by_cases h:∀k:Nat,k∈Hf.map (·.1)->id≠(k:Int)
 ·exact Pd h w
 ·have h':∃k:Nat,k∈Hf.map (·.1)/\id=(k:Int):=by
   by_cases hx:∃k:Nat,k∈Hf.map (·.1)/\id=(k:Int)
   ·exact hx
   ·exact absurd (fun k hk e=>hx ⟨k,hk,e⟩) h
  obtain⟨k,hk,rfl⟩:=h';have hk':k=1\/k=2\/k=3\/k=8\/k=9\/k=11\/k=17\/k=18\/k=26\/k=19\/k=21\/k=22\/k=23\/k=25\/k=24\/k=28\/k=31\/k=33\/k=34\/k=35\/k=36\/k=37\/k=40\/k=41\/k=42\/k=38\/k=39:=by simpa [Hf]using hk
  obtain rfl| rfl| rfl| rfl| rfl| rfl| rfl| rfl| rfl| rfl| rfl| rfl| rfl| rfl| rfl| rfl| rfl| rfl| rfl| rfl| rfl| rfl| rfl| rfl| rfl| rfl| rfl:=hk'
  ·exact Qf w
  ·exact Qe w
  ·exact Qd w
  ·exact Qc w
  ·exact Qb w
  ·exact PD w
  ·exact PC w
  ·exact PA w
  ·exact Pt w
  ·exact Pz w
  ·exact Py w
  ·exact Px w
  ·exact Pw w
  ·exact Pu w
  ·exact Pv w
  ·exact Ps w
  ·exact Pq w
  ·exact Pp w
  ·exact Po w
  ·exact Pn w
  ·exact Pm w
  ·exact Pj w
  ·exact Pg w
  ·exact Pf w
  ·exact Pe w
  ·exact Pi w
  ·exact Ph w
section
theorem Ot(id:Int):∀k∈gN id,1<=k/\k<=16:=by
 have h:∀p∈Hf,∀k∈p.2,1<=k/\k<=16:=by decide+kernel
 unfold gN;cases hf:Hf.find? fun p=>(p.1:Int)==id with
 | none=>simp
 | some p=>exact h p (jc hf)
theorem Nx:∀p∈Hf,∀k:Fin 17,(p.2.contains ((k.1:Nat):Int))=ng (cr p.1) ((k.1:Nat):Int):=by decide+kernel
theorem Nv(kind id:Int):(gN id).contains kind=Jv kind id:=by
 by_cases hk:0<=kind/\kind<=16
 ·obtain⟨k,rfl⟩:=JL hk.1;have hk':k<17:=by omega
  unfold gN Jv;cases hf:Hf.find? fun p=>(p.1:Int)==id with
  | none=>
    have hr:cr id=⟨0,0,0,0⟩:=by
     have h0:=List.find?_eq_none.1 hf;unfold cr;rw[Je (fun j hj e=>?_)]
     ·rfl
     ·have h1:∀j∈dQ.map (·.1),j∈Hf.map (·.1):=by decide+kernel
      obtain⟨p,hp,hpe⟩:=jX.1 (h1 j hj);have:=h0 p hp;subst hpe;simp[e]at this
    rw[hr];simp[ng]
  | some p=>
    have hp:=jc hf;have he:(p.1:Int)=id:=by simpa using List.find?_some hf
    have:=Nx p hp ⟨k,hk'⟩;simp only[Option.map_some,kB];rw[<-he];exact this
 ·have h1:ng (cr id) kind=false:=by
   unfold ng
   by_cases h:1<=kind
   ·rw[au h,ah (by omega)];rfl
   ·rw[ah h];rfl
  unfold Jv;rw[h1];rw[<-Bool.not_eq_true,IE];intro h;have:=Ot id kind h;omega
theorem Mj(a b c d:Value)(W:World):(Instr.field RwT (.agg #[a,b,c,d]) 0).run prog W= .ok a W:=by kernel_rfl
theorem Mi(a b c d:Value)(W:World):(Instr.field RwT (.agg #[a,b,c,d]) 1).run prog W= .ok b W:=by kernel_rfl
attribute [local go_sem] Mj Mi
theorem Bc(kind id:Int)(w:World):Calls prog 343 #[.int .i64 kind,.int .i64 id] w fun e w'=>e= .returned (.bool (Jv kind id))/\Below w.heap.size w w':=by
 have HF:=aa (Nv kind id);go_enter func343,ntmps343
 go_wp2_with fail
 refine(Gz id _).mono ?_;rintro e w1 ⟨A,c,rfl,hr,hb⟩;unfold Hp;have HR:=aa hr;have HB:=aa hb;clear hr hb
 have HL:Hid ((gN id).length<=20):=aa (by
  have h:∀p∈Hf,p.2.length<=20:=by decide+kernel
  unfold gN;cases hf:Hf.find? fun p=>(p.1:Int)==id with
  | none=>simp
  | some p=>exact h p (jc hf))
 generalize gN id=l at*;have hl20:=HL.o;go_wp2
 go_loop [6] (fun i=>∃k:Nat,k<=l.length/\i= .int .i64 k/\(∀j,j<k->l[j]? ≠some kind)) (fun i=>l.length- (intOf i).toNat)
 case atStart=>exact⟨0,by omega,rfl,fun j hj=>by omega⟩
 case round=>
  obtain⟨k,hk,rfl,hall⟩:=hrel;have HA:=aa hall;clear hall
  by_cases hlt:k<l.length
  ·obtain⟨b,o,z,rfl,hbb,hz,hc⟩:=HR.o.atI hlt;have HZ:=aa hz;clear hz
   have b1:(0:Int)<=(k:Int):=by omega
   have b2:(k:Int)<(l.length:Int):=by omega
   by_cases he:z=kind
   ·have e1:(z==kind)=true:=aK.2 he;have HT:Hid (l.contains kind=true):=aa (by rw[IE,<-he];exact iL HZ.o);clear he;go_wp2;go_ret;exact⟨by rw[<-HF.o,HT.o];rfl,HB.o⟩
   ·have e1:(z==kind)=false:=ar.2 he;have HE:=aa he;clear he;go_wp2
    go_round
    case rel=>
     refine⟨k+1,by omega,by go_num,fun j hj=>?_⟩;rcases dx.1 hj with h| rfl
     ·exact HA.o j h
     ·rw[HZ.o];intro e;exact HE.o (Option.some.inj e)
    case measure=>simp[intOf];omega
  ·obtain rfl:k=l.length:=by omega
   have HT:Hid (l.contains kind=false):=aa (by
    rw[<-Bool.not_eq_true,IE];intro h;obtain⟨j,hj,he⟩:=List.getElem_of_mem h;exact HA.o j hj (by rw[List.getElem?_eq_getElem hj,he]))
   go_wp2;go_ret;exact⟨by rw[<-HF.o,HT.o];rfl,HB.o⟩
theorem Lp(kind id:Int)(w:World):Calls prog 374 #[.int .i64 kind,.int .i64 id] w fun e w'=>e= .returned (.bool (Km kind id))/\Below w.heap.size w w':=by
 have HF:Hid (Km kind id=(gS kind id&&Jv kind id)):=aa rfl;have HO:Hid (gS kind id=(id==38 || (id==11&&kind==3))):=aa rfl;cases hm:Jv kind id
 ·have HM:=aa hm;clear hm
  go_enter func374,ntmps374
  go_wp2_with fail
  refine(Bc kind id _).mono ?_;rintro e w1 ⟨rfl,hb⟩;rw[HM.o];go_wp2;go_ret;exact⟨by rw[HF.o,HM.o,ru];rfl,hb⟩
 ·have HM:=aa hm;clear hm
  cases h38:(id==38)<;>cases h11:(id==11)<;>cases h3:(kind==3)
  all_goals
   have HH:Hid (gS kind id=_):=aa (by rw[HO.o,h38,h11,h3]);go_enter func374,ntmps374
   go_wp2_with fail
   refine(Bc kind id _).mono ?_;rintro e w1 ⟨rfl,hb⟩;rw[HM.o];go_wp2;go_ret;exact⟨by rw[HF.o,HM.o,HH.o];rfl,hb⟩
end
theorem Jt{sh ki le mo:Nat}{id:Int}(h:cr id=⟨sh,ki,le,mo⟩)(h5:sh≠5):(id==8)=false:=by
 refine ar.2 fun e=>h5 ?_;subst e;have:(cr 8).shape=5:=by decide+kernel
 rw[h]at this;exact this
theorem Jp(kind:Int)(p:Pr)(hp:p.Ok)(w:World):
  Calls prog 345 #[.int .i64 kind,p.val] w fun e w'=>e= .returned (.int .i64 (de (cr p.id) kind p))/\Below w.heap.size w w':=by
 obtain⟨id,n,t,v⟩:=p;obtain⟨sh,ki,le,mo,hR⟩:∃sh ki le mo,cr id=⟨sh,ki,le,mo⟩:=⟨_,_,_,_,rfl⟩;have h7':=(nL id).1;rw[hR]at h7';have h7:sh<=7:=h7';clear h7';obtain⟨E,hE⟩:∃E,de (cr id) kind ⟨id,n,t,v⟩=E:=⟨_,rfl⟩;have HE:=aa hE;have HP:Hid (t.size<=4611686018427387904/\v.size<=4611686018427387904):=aa hp.2;have HMP:Hid (Jv kind id=ng (cr id) kind):=aa rfl;simp only[Pr.val,hE];have HR:=aa hR;clear hE hp;have HX:=aa (Bk.fresh w 102 #[.int .i64 id,.int .u32 n,.string t,.string v]);have HB:=aa ((aq w.heap.size w).alloc (ac _) (.cells #[.int .i64 id,.int .u32 n,.string t,.string v] 102));cases hm:Jv kind id
 ·have HF:Hid (E=9):=aa (by rw[<-HE.o];unfold de;rw[<-HMP.o,hm];rfl);have HM:=aa hm;clear hm hR;go_enter func345,ntmps345
  go_wp2_with fail
  refine(Bc kind id _).mono ?_;rintro e w1 ⟨rfl,hb⟩;rw[HM.o];have B1:=aa (HB.o.trans (hb.mono HB.o.size));clear hb
  go_wp2;go_ret;exact⟨by rw[HF.o];rfl,B1.o⟩
 have HM:=aa hm;have HCK:Hid (de (cr id) kind ⟨id,n,t,v⟩=(if sh<=4 then(if t.toList.isEmpty=false\/v.toList.isEmpty=false then 2 else if n<le\/mo<n then 9 else 0)
   else if n≠0\/(v.toList.isEmpty=false/\sh≠7)then 2 else if sh=6 then(if 65535<t.size then 2 else 0)else if bN t=false\/bN v=false then 6 else if id=8/\fp t=false then 9 else 0)):=
  aa (by unfold de;rw[<-HMP.o,hm,hR];rfl)
 clear hm
 by_cases h4:sh<=4
 ·have s4:decide ((sh:Int)<=4)=true:=au (by omega);have s7:((sh:Int) !=7)=true:=aA.2 (by omega);have q5:((sh:Int)==5)=false:=ar.2 (by omega);have q7:((sh:Int)==7)=false:=ar.2 (by omega);have q6:((sh:Int)==6)=false:=ar.2 (by omega);have e8:=Jt hR (by omega);clear hR;cases ht:t.toList.isEmpty
  ·have HF:Hid (E=2):=aa (by rw[<-HE.o,HCK.o,if_pos h4,if_pos (.inl ht)]);clear h4 h7;go_enter func345,ntmps345
   go_wp2_with fail
   refine(Bc kind id _).mono ?_;rintro e w1 ⟨rfl,hb⟩;rw[HM.o];have X1:=aa (HX.o.below hb HX.o.lt);have B1:=aa (HB.o.trans (hb.mono HB.o.size));clear hb
   obtain⟨⟨c0,c1,c2,c3⟩,f0,f1,f2,f3⟩:=X1.o.four
   go_wp2_with fail
   refine(Gz id _).mono ?_;rintro e w2 ⟨A,c,rfl,-,hb⟩;unfold Hp;rw[HR.o];clear c0 c1 c2 c3 f0 f1 f2 f3;have X2:=aa ((X1.o.below hb X1.o.lt).alloc (.cells #[.int .i64 sh,.slice A (gN id).length c,.int .u32 le,.int .u32 mo] RwT));have B2:=aa ((B1.o.trans (hb.mono B1.o.size)).alloc (B1.o.trans (hb.mono B1.o.size)).size (.cells #[.int .i64 sh,.slice A (gN id).length c,.int .u32 le,.int .u32 mo] RwT));clear hb
   obtain⟨⟨c0,c1,c2,c3⟩,f0,f1,f2,f3⟩:=X2.o.four;go_wp2;go_ret;exact⟨by rw[HF.o];rfl,B2.o⟩
  cases hv:v.toList.isEmpty
  ·have HF:Hid (E=2):=aa (by rw[<-HE.o,HCK.o,if_pos h4,if_pos (.inr hv)]);clear h4 h7;go_enter func345,ntmps345
   go_wp2_with fail
   refine(Bc kind id _).mono ?_;rintro e w1 ⟨rfl,hb⟩;rw[HM.o];have X1:=aa (HX.o.below hb HX.o.lt);have B1:=aa (HB.o.trans (hb.mono HB.o.size));clear hb
   obtain⟨⟨c0,c1,c2,c3⟩,f0,f1,f2,f3⟩:=X1.o.four
   go_wp2_with fail
   refine(Gz id _).mono ?_;rintro e w2 ⟨A,c,rfl,-,hb⟩;unfold Hp;rw[HR.o];clear c0 c1 c2 c3 f0 f1 f2 f3;have X2:=aa ((X1.o.below hb X1.o.lt).alloc (.cells #[.int .i64 sh,.slice A (gN id).length c,.int .u32 le,.int .u32 mo] RwT));have B2:=aa ((B1.o.trans (hb.mono B1.o.size)).alloc (B1.o.trans (hb.mono B1.o.size)).size (.cells #[.int .i64 sh,.slice A (gN id).length c,.int .u32 le,.int .u32 mo] RwT));clear hb
   obtain⟨⟨c0,c1,c2,c3⟩,f0,f1,f2,f3⟩:=X2.o.four;go_wp2;go_ret;exact⟨by rw[HF.o];rfl,B2.o⟩
  have HC2:Hid (E=if n<le\/mo<n then 9 else 0):=aa (by rw[<-HE.o,HCK.o,if_pos h4,ae (by rw[ht,hv];simp)]);clear h4 h7
  by_cases hl:n<le
  ·have HF:Hid (E=9):=aa (by rw[HC2.o,if_pos (.inl hl)]);have dl:decide ((n:Int)<(le:Int))=true:=au (by omega);have dl':decide (n<le)=true:=au hl;clear hl;go_enter func345,ntmps345
   go_wp2_with fail
   refine(Bc kind id _).mono ?_;rintro e w1 ⟨rfl,hb⟩;rw[HM.o];have X1:=aa (HX.o.below hb HX.o.lt);have B1:=aa (HB.o.trans (hb.mono HB.o.size));clear hb
   obtain⟨⟨c0,c1,c2,c3⟩,f0,f1,f2,f3⟩:=X1.o.four
   go_wp2_with fail
   refine(Gz id _).mono ?_;rintro e w2 ⟨A,c,rfl,-,hb⟩;unfold Hp;rw[HR.o];clear c0 c1 c2 c3 f0 f1 f2 f3;have X2:=aa ((X1.o.below hb X1.o.lt).alloc (.cells #[.int .i64 sh,.slice A (gN id).length c,.int .u32 le,.int .u32 mo] RwT));have B2:=aa ((B1.o.trans (hb.mono B1.o.size)).alloc (B1.o.trans (hb.mono B1.o.size)).size (.cells #[.int .i64 sh,.slice A (gN id).length c,.int .u32 le,.int .u32 mo] RwT));clear hb
   obtain⟨⟨c0,c1,c2,c3⟩,f0,f1,f2,f3⟩:=X2.o.four;go_wp2;go_ret;exact⟨by rw[HF.o];rfl,B2.o⟩
  have dl:decide ((n:Int)<(le:Int))=false:=ah (by omega);have dl':decide (n<le)=false:=ah hl
  by_cases hu:mo<n
  ·have HF:Hid (E=9):=aa (by rw[HC2.o,if_pos (.inr hu)]);have du:decide ((mo:Int)<(n:Int))=true:=au (by omega);have du':decide (mo<n)=true:=au hu;clear hl hu;go_enter func345,ntmps345
   go_wp2_with fail
   refine(Bc kind id _).mono ?_;rintro e w1 ⟨rfl,hb⟩;rw[HM.o];have X1:=aa (HX.o.below hb HX.o.lt);have B1:=aa (HB.o.trans (hb.mono HB.o.size));clear hb
   obtain⟨⟨c0,c1,c2,c3⟩,f0,f1,f2,f3⟩:=X1.o.four
   go_wp2_with fail
   refine(Gz id _).mono ?_;rintro e w2 ⟨A,c,rfl,-,hb⟩;unfold Hp;rw[HR.o];clear c0 c1 c2 c3 f0 f1 f2 f3;have X2:=aa ((X1.o.below hb X1.o.lt).alloc (.cells #[.int .i64 sh,.slice A (gN id).length c,.int .u32 le,.int .u32 mo] RwT));have B2:=aa ((B1.o.trans (hb.mono B1.o.size)).alloc (B1.o.trans (hb.mono B1.o.size)).size (.cells #[.int .i64 sh,.slice A (gN id).length c,.int .u32 le,.int .u32 mo] RwT));clear hb
   obtain⟨⟨c0,c1,c2,c3⟩,f0,f1,f2,f3⟩:=X2.o.four;go_wp2;go_ret;exact⟨by rw[HF.o];rfl,B2.o⟩
  ·have HF:Hid (E=0):=aa (by rw[HC2.o,ae (by omega)]);have du:decide ((mo:Int)<(n:Int))=false:=ah (by omega);have du':decide (mo<n)=false:=ah hu;clear hl hu;go_enter func345,ntmps345
   go_wp2_with fail
   refine(Bc kind id _).mono ?_;rintro e w1 ⟨rfl,hb⟩;rw[HM.o];have X1:=aa (HX.o.below hb HX.o.lt);have B1:=aa (HB.o.trans (hb.mono HB.o.size));clear hb
   obtain⟨⟨c0,c1,c2,c3⟩,f0,f1,f2,f3⟩:=X1.o.four
   go_wp2_with fail
   refine(Gz id _).mono ?_;rintro e w2 ⟨A,c,rfl,-,hb⟩;unfold Hp;rw[HR.o];clear c0 c1 c2 c3 f0 f1 f2 f3;have X2:=aa ((X1.o.below hb X1.o.lt).alloc (.cells #[.int .i64 sh,.slice A (gN id).length c,.int .u32 le,.int .u32 mo] RwT));have B2:=aa ((B1.o.trans (hb.mono B1.o.size)).alloc (B1.o.trans (hb.mono B1.o.size)).size (.cells #[.int .i64 sh,.slice A (gN id).length c,.int .u32 le,.int .u32 mo] RwT));clear hb
   obtain⟨⟨c0,c1,c2,c3⟩,f0,f1,f2,f3⟩:=X2.o.four;go_wp2;go_ret;exact⟨by rw[HF.o];rfl,B2.o⟩
 have s4:decide ((sh:Int)<=4)=false:=ah (by omega)
 by_cases hn:n=0
 rotate_left
 ·have HF:Hid (E=2):=aa (by rw[<-HE.o,HCK.o,ae h4,if_pos (.inl hn)]);have n0:((n:Int) !=0)=true:=aA.2 (by omega);clear h4 h7 hn hR;go_enter func345,ntmps345
  go_wp2_with fail
  refine(Bc kind id _).mono ?_;rintro e w1 ⟨rfl,hb⟩;rw[HM.o];have X1:=aa (HX.o.below hb HX.o.lt);have B1:=aa (HB.o.trans (hb.mono HB.o.size));clear hb
  obtain⟨⟨c0,c1,c2,c3⟩,f0,f1,f2,f3⟩:=X1.o.four
  go_wp2_with fail
  refine(Gz id _).mono ?_;rintro e w2 ⟨A,c,rfl,-,hb⟩;unfold Hp;rw[HR.o];clear c0 c1 c2 c3 f0 f1 f2 f3;have X2:=aa ((X1.o.below hb X1.o.lt).alloc (.cells #[.int .i64 sh,.slice A (gN id).length c,.int .u32 le,.int .u32 mo] RwT));have B2:=aa ((B1.o.trans (hb.mono B1.o.size)).alloc (B1.o.trans (hb.mono B1.o.size)).size (.cells #[.int .i64 sh,.slice A (gN id).length c,.int .u32 le,.int .u32 mo] RwT));clear hb
  obtain⟨⟨c0,c1,c2,c3⟩,f0,f1,f2,f3⟩:=X2.o.four;go_wp2;go_ret;exact⟨by rw[HF.o];rfl,B2.o⟩
 have n0:((n:Int) !=0)=false:=by simp;omega
 by_cases hs7:sh=7
 ·have s7:((sh:Int) !=7)=false:=by simp;omega
  have q5:((sh:Int)==5)=false:=ar.2 (by omega);have q7:((sh:Int)==7)=true:=aK.2 (by omega);have q6:((sh:Int)==6)=false:=ar.2 (by omega);have e8:=Jt hR (by omega);have HC3:Hid (E=if bN t=false\/bN v=false then 6 else if id=8/\fp t=false then 9 else 0):=aa (by rw[<-HE.o,HCK.o,ae h4,ae (by simp[hn,hs7]),ae (by omega)]);clear h4 h7 hn hs7 hR;cases hvt:bN t
  ·have HF:Hid (E=6):=aa (by rw[HC3.o,if_pos (.inl hvt)]);have HVT:=aa hvt;clear hvt
   go_enter func345,ntmps345
   go_wp2_with fail
   refine(Bc kind id _).mono ?_;rintro e w1 ⟨rfl,hb⟩;rw[HM.o];have X1:=aa (HX.o.below hb HX.o.lt);have B1:=aa (HB.o.trans (hb.mono HB.o.size));clear hb
   obtain⟨⟨c0,c1,c2,c3⟩,f0,f1,f2,f3⟩:=X1.o.four
   go_wp2_with fail
   refine(Gz id _).mono ?_;rintro e w2 ⟨A,c,rfl,-,hb⟩;unfold Hp;rw[HR.o];clear c0 c1 c2 c3 f0 f1 f2 f3;have X2:=aa ((X1.o.below hb X1.o.lt).alloc (.cells #[.int .i64 sh,.slice A (gN id).length c,.int .u32 le,.int .u32 mo] RwT));have B2:=aa ((B1.o.trans (hb.mono B1.o.size)).alloc (B1.o.trans (hb.mono B1.o.size)).size (.cells #[.int .i64 sh,.slice A (gN id).length c,.int .u32 le,.int .u32 mo] RwT));clear hb
   obtain⟨⟨c0,c1,c2,c3⟩,f0,f1,f2,f3⟩:=X2.o.four
   go_wp2_with fail
   refine(xj t _ HP.o.1).mono ?_;rintro e w3 ⟨rfl,rfl⟩;rw[HVT.o];go_wp2;go_ret;exact⟨by rw[HF.o];rfl,B2.o⟩
  cases hvv:bN v
  ·have HF:Hid (E=6):=aa (by rw[HC3.o,if_pos (.inr hvv)]);have HVT:=aa hvt;have HVV:=aa hvv;clear hvt hvv
   go_enter func345,ntmps345
   go_wp2_with fail
   refine(Bc kind id _).mono ?_;rintro e w1 ⟨rfl,hb⟩;rw[HM.o];have X1:=aa (HX.o.below hb HX.o.lt);have B1:=aa (HB.o.trans (hb.mono HB.o.size));clear hb
   obtain⟨⟨c0,c1,c2,c3⟩,f0,f1,f2,f3⟩:=X1.o.four
   go_wp2_with fail
   refine(Gz id _).mono ?_;rintro e w2 ⟨A,c,rfl,-,hb⟩;unfold Hp;rw[HR.o];clear c0 c1 c2 c3 f0 f1 f2 f3;have X2:=aa ((X1.o.below hb X1.o.lt).alloc (.cells #[.int .i64 sh,.slice A (gN id).length c,.int .u32 le,.int .u32 mo] RwT));have B2:=aa ((B1.o.trans (hb.mono B1.o.size)).alloc (B1.o.trans (hb.mono B1.o.size)).size (.cells #[.int .i64 sh,.slice A (gN id).length c,.int .u32 le,.int .u32 mo] RwT));clear hb
   obtain⟨⟨c0,c1,c2,c3⟩,f0,f1,f2,f3⟩:=X2.o.four
   go_wp2_with fail
   refine(xj t _ HP.o.1).mono ?_;rintro e w3 ⟨rfl,rfl⟩;rw[HVT.o]
   go_wp2_with fail
   refine(xj v _ HP.o.2).mono ?_;rintro e w3 ⟨rfl,rfl⟩;rw[HVV.o];go_wp2;go_ret;exact⟨by rw[HF.o];rfl,B2.o⟩
  have HVT:=aa hvt;have HVV:=aa hvv
  have HC4:Hid (E=if id=8/\fp t=false then 9 else 0):=aa (by rw[HC3.o,ae (by rw[hvt,hvv];simp)]);clear hvt hvv;have HF:Hid (E=0):=aa (by rw[HC4.o,ae (fun x=>by have:=x.1;rw[this]at e8;cases e8)]);go_enter func345,ntmps345
  go_wp2_with fail
  refine(Bc kind id _).mono ?_;rintro e w1 ⟨rfl,hb⟩;rw[HM.o];have X1:=aa (HX.o.below hb HX.o.lt);have B1:=aa (HB.o.trans (hb.mono HB.o.size));clear hb
  obtain⟨⟨c0,c1,c2,c3⟩,f0,f1,f2,f3⟩:=X1.o.four
  go_wp2_with fail
  refine(Gz id _).mono ?_;rintro e w2 ⟨A,c,rfl,-,hb⟩;unfold Hp;rw[HR.o];clear c0 c1 c2 c3 f0 f1 f2 f3;have X2:=aa ((X1.o.below hb X1.o.lt).alloc (.cells #[.int .i64 sh,.slice A (gN id).length c,.int .u32 le,.int .u32 mo] RwT));have B2:=aa ((B1.o.trans (hb.mono B1.o.size)).alloc (B1.o.trans (hb.mono B1.o.size)).size (.cells #[.int .i64 sh,.slice A (gN id).length c,.int .u32 le,.int .u32 mo] RwT));clear hb
  obtain⟨⟨c0,c1,c2,c3⟩,f0,f1,f2,f3⟩:=X2.o.four
  go_wp2_with fail
  refine(xj t _ HP.o.1).mono ?_;rintro e w3 ⟨rfl,rfl⟩;rw[HVT.o]
  go_wp2_with fail
  refine(xj v _ HP.o.2).mono ?_;rintro e w3 ⟨rfl,rfl⟩;rw[HVV.o];go_wp2;go_ret;exact⟨by rw[HF.o];rfl,B2.o⟩
 have s7:((sh:Int) !=7)=true:=aA.2 (by omega);cases hv:v.toList.isEmpty
 ·have HF:Hid (E=2):=aa (by rw[<-HE.o,HCK.o,ae h4,if_pos (.inr ⟨hv,hs7⟩)]);clear h4 h7 hn hs7 hR;go_enter func345,ntmps345
  go_wp2_with fail
  refine(Bc kind id _).mono ?_;rintro e w1 ⟨rfl,hb⟩;rw[HM.o];have X1:=aa (HX.o.below hb HX.o.lt);have B1:=aa (HB.o.trans (hb.mono HB.o.size));clear hb
  obtain⟨⟨c0,c1,c2,c3⟩,f0,f1,f2,f3⟩:=X1.o.four
  go_wp2_with fail
  refine(Gz id _).mono ?_;rintro e w2 ⟨A,c,rfl,-,hb⟩;unfold Hp;rw[HR.o];clear c0 c1 c2 c3 f0 f1 f2 f3;have X2:=aa ((X1.o.below hb X1.o.lt).alloc (.cells #[.int .i64 sh,.slice A (gN id).length c,.int .u32 le,.int .u32 mo] RwT));have B2:=aa ((B1.o.trans (hb.mono B1.o.size)).alloc (B1.o.trans (hb.mono B1.o.size)).size (.cells #[.int .i64 sh,.slice A (gN id).length c,.int .u32 le,.int .u32 mo] RwT));clear hb
  obtain⟨⟨c0,c1,c2,c3⟩,f0,f1,f2,f3⟩:=X2.o.four;go_wp2;go_ret;exact⟨by rw[HF.o];rfl,B2.o⟩
 have HC5:Hid (E=if sh=6 then(if 65535<t.size then 2 else 0)else if bN t=false\/bN v=false then 6 else if id=8/\fp t=false then 9 else 0):=aa (by rw[<-HE.o,HCK.o,ae h4,ae (by rw[hv];simp[hn])]);have q7:((sh:Int)==7)=false:=ar.2 (by omega)
 by_cases hs6:sh=6
 ·have q5:((sh:Int)==5)=false:=ar.2 (by omega);have q6:((sh:Int)==6)=true:=aK.2 (by omega);have e8:=Jt hR (by omega)
  by_cases hl:65535<t.size
  ·have HF:Hid (E=2):=aa (by rw[HC5.o,if_pos hs6,if_pos hl]);have dl:decide ((65535:Int)<(t.size:Int))=true:=au (by omega);clear h4 h7 hn hs7 hs6 hl hR;go_enter func345,ntmps345
   go_wp2_with fail
   refine(Bc kind id _).mono ?_;rintro e w1 ⟨rfl,hb⟩;rw[HM.o];have X1:=aa (HX.o.below hb HX.o.lt);have B1:=aa (HB.o.trans (hb.mono HB.o.size));clear hb
   obtain⟨⟨c0,c1,c2,c3⟩,f0,f1,f2,f3⟩:=X1.o.four
   go_wp2_with fail
   refine(Gz id _).mono ?_;rintro e w2 ⟨A,c,rfl,-,hb⟩;unfold Hp;rw[HR.o];clear c0 c1 c2 c3 f0 f1 f2 f3;have X2:=aa ((X1.o.below hb X1.o.lt).alloc (.cells #[.int .i64 sh,.slice A (gN id).length c,.int .u32 le,.int .u32 mo] RwT));have B2:=aa ((B1.o.trans (hb.mono B1.o.size)).alloc (B1.o.trans (hb.mono B1.o.size)).size (.cells #[.int .i64 sh,.slice A (gN id).length c,.int .u32 le,.int .u32 mo] RwT));clear hb
   obtain⟨⟨c0,c1,c2,c3⟩,f0,f1,f2,f3⟩:=X2.o.four;go_wp2;go_ret;exact⟨by rw[HF.o];rfl,B2.o⟩
  ·have HF:Hid (E=0):=aa (by rw[HC5.o,if_pos hs6,ae hl]);have dl:decide ((65535:Int)<(t.size:Int))=false:=ah (by omega);clear h4 h7 hn hs7 hs6 hl hR;go_enter func345,ntmps345
   go_wp2_with fail
   refine(Bc kind id _).mono ?_;rintro e w1 ⟨rfl,hb⟩;rw[HM.o];have X1:=aa (HX.o.below hb HX.o.lt);have B1:=aa (HB.o.trans (hb.mono HB.o.size));clear hb
   obtain⟨⟨c0,c1,c2,c3⟩,f0,f1,f2,f3⟩:=X1.o.four
   go_wp2_with fail
   refine(Gz id _).mono ?_;rintro e w2 ⟨A,c,rfl,-,hb⟩;unfold Hp;rw[HR.o];clear c0 c1 c2 c3 f0 f1 f2 f3;have X2:=aa ((X1.o.below hb X1.o.lt).alloc (.cells #[.int .i64 sh,.slice A (gN id).length c,.int .u32 le,.int .u32 mo] RwT));have B2:=aa ((B1.o.trans (hb.mono B1.o.size)).alloc (B1.o.trans (hb.mono B1.o.size)).size (.cells #[.int .i64 sh,.slice A (gN id).length c,.int .u32 le,.int .u32 mo] RwT));clear hb
   obtain⟨⟨c0,c1,c2,c3⟩,f0,f1,f2,f3⟩:=X2.o.four;go_wp2;go_ret;exact⟨by rw[HF.o];rfl,B2.o⟩
 have q5:((sh:Int)==5)=true:=aK.2 (by omega);have q6:((sh:Int)==6)=false:=ar.2 (by omega);have HC3:Hid (E=if bN t=false\/bN v=false then 6 else if id=8/\fp t=false then 9 else 0):=aa (by rw[HC5.o,ae hs6]);clear h4 h7 hn hs7 hs6 hR;cases hvt:bN t
 ·have HF:Hid (E=6):=aa (by rw[HC3.o,if_pos (.inl hvt)]);have HVT:=aa hvt;clear hvt
  go_enter func345,ntmps345
  go_wp2_with fail
  refine(Bc kind id _).mono ?_;rintro e w1 ⟨rfl,hb⟩;rw[HM.o];have X1:=aa (HX.o.below hb HX.o.lt);have B1:=aa (HB.o.trans (hb.mono HB.o.size));clear hb
  obtain⟨⟨c0,c1,c2,c3⟩,f0,f1,f2,f3⟩:=X1.o.four
  go_wp2_with fail
  refine(Gz id _).mono ?_;rintro e w2 ⟨A,c,rfl,-,hb⟩;unfold Hp;rw[HR.o];clear c0 c1 c2 c3 f0 f1 f2 f3;have X2:=aa ((X1.o.below hb X1.o.lt).alloc (.cells #[.int .i64 sh,.slice A (gN id).length c,.int .u32 le,.int .u32 mo] RwT));have B2:=aa ((B1.o.trans (hb.mono B1.o.size)).alloc (B1.o.trans (hb.mono B1.o.size)).size (.cells #[.int .i64 sh,.slice A (gN id).length c,.int .u32 le,.int .u32 mo] RwT));clear hb
  obtain⟨⟨c0,c1,c2,c3⟩,f0,f1,f2,f3⟩:=X2.o.four
  go_wp2_with fail
  refine(xj t _ HP.o.1).mono ?_;rintro e w3 ⟨rfl,rfl⟩;rw[HVT.o];go_wp2;go_ret;exact⟨by rw[HF.o];rfl,B2.o⟩
 cases hvv:bN v
 ·have HF:Hid (E=6):=aa (by rw[HC3.o,if_pos (.inr hvv)]);have HVT:=aa hvt;have HVV:=aa hvv;clear hvt hvv
  go_enter func345,ntmps345
  go_wp2_with fail
  refine(Bc kind id _).mono ?_;rintro e w1 ⟨rfl,hb⟩;rw[HM.o];have X1:=aa (HX.o.below hb HX.o.lt);have B1:=aa (HB.o.trans (hb.mono HB.o.size));clear hb
  obtain⟨⟨c0,c1,c2,c3⟩,f0,f1,f2,f3⟩:=X1.o.four
  go_wp2_with fail
  refine(Gz id _).mono ?_;rintro e w2 ⟨A,c,rfl,-,hb⟩;unfold Hp;rw[HR.o];clear c0 c1 c2 c3 f0 f1 f2 f3;have X2:=aa ((X1.o.below hb X1.o.lt).alloc (.cells #[.int .i64 sh,.slice A (gN id).length c,.int .u32 le,.int .u32 mo] RwT));have B2:=aa ((B1.o.trans (hb.mono B1.o.size)).alloc (B1.o.trans (hb.mono B1.o.size)).size (.cells #[.int .i64 sh,.slice A (gN id).length c,.int .u32 le,.int .u32 mo] RwT));clear hb
  obtain⟨⟨c0,c1,c2,c3⟩,f0,f1,f2,f3⟩:=X2.o.four
  go_wp2_with fail
  refine(xj t _ HP.o.1).mono ?_;rintro e w3 ⟨rfl,rfl⟩;rw[HVT.o]
  go_wp2_with fail
  refine(xj v _ HP.o.2).mono ?_;rintro e w3 ⟨rfl,rfl⟩;rw[HVV.o];go_wp2;go_ret;exact⟨by rw[HF.o];rfl,B2.o⟩
 have HVT:=aa hvt;have HVV:=aa hvv
 have HC4:Hid (E=if id=8/\fp t=false then 9 else 0):=aa (by rw[HC3.o,ae (by rw[hvt,hvv];simp)]);clear hvt hvv
 by_cases h8:id=8
 ·have e8:(id==8)=true:=aK.2 h8;cases hnm:fp t
  ·have HF:Hid (E=9):=aa (by rw[HC4.o,if_pos ⟨h8,hnm⟩]);have HNM:=aa hnm;clear hnm h8
   go_enter func345,ntmps345
   go_wp2_with fail
   refine(Bc kind id _).mono ?_;rintro e w1 ⟨rfl,hb⟩;rw[HM.o];have X1:=aa (HX.o.below hb HX.o.lt);have B1:=aa (HB.o.trans (hb.mono HB.o.size));clear hb
   obtain⟨⟨c0,c1,c2,c3⟩,f0,f1,f2,f3⟩:=X1.o.four
   go_wp2_with fail
   refine(Gz id _).mono ?_;rintro e w2 ⟨A,c,rfl,-,hb⟩;unfold Hp;rw[HR.o];clear c0 c1 c2 c3 f0 f1 f2 f3;have X2:=aa ((X1.o.below hb X1.o.lt).alloc (.cells #[.int .i64 sh,.slice A (gN id).length c,.int .u32 le,.int .u32 mo] RwT));have B2:=aa ((B1.o.trans (hb.mono B1.o.size)).alloc (B1.o.trans (hb.mono B1.o.size)).size (.cells #[.int .i64 sh,.slice A (gN id).length c,.int .u32 le,.int .u32 mo] RwT));clear hb
   obtain⟨⟨c0,c1,c2,c3⟩,f0,f1,f2,f3⟩:=X2.o.four
   go_wp2_with fail
   refine(xj t _ HP.o.1).mono ?_;rintro e w3 ⟨rfl,rfl⟩;rw[HVT.o]
   go_wp2_with fail
   refine(xj v _ HP.o.2).mono ?_;rintro e w3 ⟨rfl,rfl⟩;rw[HVV.o]
   go_wp2_with fail
   refine(Hg t _ HP.o.1).mono ?_;rintro e w3 ⟨rfl,rfl⟩;rw[HNM.o];go_wp2;go_ret;exact⟨by rw[HF.o];rfl,B2.o⟩
  ·have HF:Hid (E=0):=aa (by rw[HC4.o,ae (fun x=>by rw[hnm]at x;cases x.2)]);have HNM:=aa hnm;clear hnm h8
   go_enter func345,ntmps345
   go_wp2_with fail
   refine(Bc kind id _).mono ?_;rintro e w1 ⟨rfl,hb⟩;rw[HM.o];have X1:=aa (HX.o.below hb HX.o.lt);have B1:=aa (HB.o.trans (hb.mono HB.o.size));clear hb
   obtain⟨⟨c0,c1,c2,c3⟩,f0,f1,f2,f3⟩:=X1.o.four
   go_wp2_with fail
   refine(Gz id _).mono ?_;rintro e w2 ⟨A,c,rfl,-,hb⟩;unfold Hp;rw[HR.o];clear c0 c1 c2 c3 f0 f1 f2 f3;have X2:=aa ((X1.o.below hb X1.o.lt).alloc (.cells #[.int .i64 sh,.slice A (gN id).length c,.int .u32 le,.int .u32 mo] RwT));have B2:=aa ((B1.o.trans (hb.mono B1.o.size)).alloc (B1.o.trans (hb.mono B1.o.size)).size (.cells #[.int .i64 sh,.slice A (gN id).length c,.int .u32 le,.int .u32 mo] RwT));clear hb
   obtain⟨⟨c0,c1,c2,c3⟩,f0,f1,f2,f3⟩:=X2.o.four
   go_wp2_with fail
   refine(xj t _ HP.o.1).mono ?_;rintro e w3 ⟨rfl,rfl⟩;rw[HVT.o]
   go_wp2_with fail
   refine(xj v _ HP.o.2).mono ?_;rintro e w3 ⟨rfl,rfl⟩;rw[HVV.o]
   go_wp2_with fail
   refine(Hg t _ HP.o.1).mono ?_;rintro e w3 ⟨rfl,rfl⟩;rw[HNM.o];go_wp2;go_ret;exact⟨by rw[HF.o];rfl,B2.o⟩
 ·have HF:Hid (E=0):=aa (by rw[HC4.o,ae (fun x=>h8 x.1)]);have e8:(id==8)=false:=ar.2 h8;clear h8;go_enter func345,ntmps345
  go_wp2_with fail
  refine(Bc kind id _).mono ?_;rintro e w1 ⟨rfl,hb⟩;rw[HM.o];have X1:=aa (HX.o.below hb HX.o.lt);have B1:=aa (HB.o.trans (hb.mono HB.o.size));clear hb
  obtain⟨⟨c0,c1,c2,c3⟩,f0,f1,f2,f3⟩:=X1.o.four
  go_wp2_with fail
  refine(Gz id _).mono ?_;rintro e w2 ⟨A,c,rfl,-,hb⟩;unfold Hp;rw[HR.o];clear c0 c1 c2 c3 f0 f1 f2 f3;have X2:=aa ((X1.o.below hb X1.o.lt).alloc (.cells #[.int .i64 sh,.slice A (gN id).length c,.int .u32 le,.int .u32 mo] RwT));have B2:=aa ((B1.o.trans (hb.mono B1.o.size)).alloc (B1.o.trans (hb.mono B1.o.size)).size (.cells #[.int .i64 sh,.slice A (gN id).length c,.int .u32 le,.int .u32 mo] RwT));clear hb
  obtain⟨⟨c0,c1,c2,c3⟩,f0,f1,f2,f3⟩:=X2.o.four
  go_wp2_with fail
  refine(xj t _ HP.o.1).mono ?_;rintro e w3 ⟨rfl,rfl⟩;rw[HVT.o]
  go_wp2_with fail
  refine(xj v _ HP.o.2).mono ?_;rintro e w3 ⟨rfl,rfl⟩;rw[HVV.o];go_wp2;go_ret;exact⟨by rw[HF.o];rfl,B2.o⟩
section
attribute [local go_sem] Mj Mi
theorem Hw(s:ByteArray)(w:World)(hs:s.size<=65535):
  Calls prog 324 #[.string s] w fun e w'=>e= .returned (.tuple #[.string (cQ s),.int .i64 0])/\Below w.heap.size w w':=by
 have HF:Hid (cQ s=⟨(da s.size 2).toArray⟩++s):=aa rfl;have d1:decide ((65535:Int)<(s.size:Int))=false:=ah (by omega);have HZ:Hid ((⟨(da s.size 2).toArray⟩:ByteArray).size=2):=aa (by rw[GW,fM]);obtain⟨X,hX⟩:∃X:ByteArray,⟨(da s.size 2).toArray⟩=X:=⟨_,rfl⟩;rw[hX]at HF HZ;have HX:=aa hX;clear hX
 have w0:IntKind.u64.wrap (s.size:Int)=(s.size:Int):=by rw[iZ];omega
 have hsum:¬(9223372036854775807<X.size+s.size):=by have:=HZ.o;omega
 go_enter func324,ntmps324
 go_wp2_with fail
 refine(GV s.size 2 _ (by omega) (by omega) (by omega)).mono ?_;rintro e w1 ⟨rfl,hb⟩;rw[HX.o];go_wp2;go_ret2;exact⟨by rw[HF.o];rfl,hb⟩
theorem JC(s:ByteArray)(w:World)(hs:s.size<=4611686018427387904):
  Calls prog 255 #[.string s] w fun e w'=>e= .returned (.tuple #[.string (IM s).1,.int .i64 (IM s).2])/\Below w.heap.size w w':=by
 cases hv:bN s
 ·have HX:Hid (IM s=(⟨#[]⟩,6)):=aa (by unfold IM;rw[hv];rfl);have HV:=aa hv;clear hv
  go_enter func255,ntmps255
  go_wp2_with fail
  refine(xj s _ hs).mono ?_;rintro e w1 ⟨rfl,rfl⟩;rw[HV.o];go_wp2;go_ret2;exact⟨by rw[HX.o];rfl,aq _ _⟩
 ·have HX:Hid (IM s=(cQ s,0)):=aa (by unfold IM;rw[if_pos hv]);have hsz:=gL hv;have HV:=aa hv;clear hv
  have HF:Hid (cQ s=⟨(da s.size 2).toArray⟩++s):=aa rfl;have HZ:Hid ((⟨(da s.size 2).toArray⟩:ByteArray).size=2):=aa (by rw[GW,fM]);obtain⟨X,hX⟩:∃X:ByteArray,⟨(da s.size 2).toArray⟩=X:=⟨_,rfl⟩;rw[hX]at HF HZ;have HX2:=aa hX;clear hX
  have w0:IntKind.u64.wrap (s.size:Int)=(s.size:Int):=by rw[iZ];omega
  have hsum:¬(9223372036854775807<X.size+s.size):=by have:=HZ.o;omega
  go_enter func255,ntmps255
  go_wp2_with fail
  refine(xj s _ hs).mono ?_;rintro e w1 ⟨rfl,rfl⟩;rw[HV.o]
  go_wp2_with fail
  refine(GV s.size 2 _ (by omega) (by omega) (by omega)).mono ?_;rintro e w1 ⟨rfl,hb⟩;rw[HX2.o];go_wp2;go_ret2;exact⟨by rw[HX.o,HF.o];rfl,hb⟩
theorem Hy(id:Int)(l:List Pr)(A:Option Addr)(c:Nat)(w:World)(h:Rd w w.heap.size 4 A l.length (prs l))(hl:l.length<=4611686018427387904):
  Calls prog 318 #[.slice A l.length c,.int .i64 id] w fun e w'=>e= .returned (.tuple #[(xg l id).val,.bool (nh l id).isSome])/\Below w.heap.size w w':=by
 have H:=aa h;clear h
 go_enter func318,ntmps318;go_wp2
 go_loopw [6] (fun i wr=>∃k:Nat,k<=l.length/\i= .int .i64 k/\nh l id=nh (l.drop k) id/\Bk wr w.heap.size 102 #[.int .i64 0,.int .u32 0,.string ⟨#[]⟩,.string ⟨#[]⟩]/\Below w.heap.size w wr) (fun i _=>l.length- (intOf i).toNat)
 case atStart=>exact⟨0,by omega,rfl,rfl,Bk.fresh _ _ _,(aq _ _).alloc (ac _) _⟩
 case round=>
  obtain⟨k,hk,rfl,hg,hbk,hbel⟩:=hrel;have HG:=aa hg;have HB:=aa hbk
  have hz:=hbel.size;have hlw:=hbk.lt;clear hg hbk
  by_cases hlt:k<l.length
  ·obtain⟨b,o,rfl,hb,c0,c1,c2,c3⟩:=(H.o.below hbel).atP hlt;have HD:=aa (bQ hlt);generalize l[k]=p at*;obtain⟨pid,n,t,v⟩:=p;simp only at c0 c1 c2 c3;have b1:(0:Int)<=(k:Int):=by omega
   have b2:(k:Int)<(l.length:Int):=by omega
   by_cases he:pid=id
   ·subst he;obtain⟨⟨d0,d1,d2,d3⟩,f0,f1,f2,f3⟩:=HB.o.four;have HF:Hid (nh l pid=some ⟨pid,n,t,v⟩):=aa (by rw[HG.o,HD.o];simp[nh]);go_wp2;have HX:=aa ((cD hbel (ac _) (.int .i64 pid) (.int .u32 n) (.string t) (.string v)));exact av (v:=.tuple #[.agg #[.int .i64 pid,.int .u32 n,.string t,.string v],.bool true]) (by simp[results,Tryz.results318,go_sem,d0,d1,d2,d3]) rfl ⟨by unfold xg;rw[HF.o];rfl,HX.o⟩
   ·have e1:(pid==id)=false:=ar.2 he;have HF:Hid (nh l id=nh (l.drop (k+1)) id):=aa (by rw[HG.o,HD.o];simp[nh,e1]);have HE:=aa he;clear he
    go_wp2
    go_roundw
    case rel=>exact⟨k+1,by omega,by go_num,HF.o,HB.o,hbel⟩
    case measure=>simp[intOf];omega
  ·obtain rfl:k=l.length:=by omega
   have HF:Hid (nh l id=none):=aa (by rw[HG.o,ox];rfl);obtain⟨⟨d0,d1,d2,d3⟩,f0,f1,f2,f3⟩:=HB.o.four;go_wp2;have HX:=aa (cD hbel (ac _) (.int .i64 0) (.int .u32 0) (.string ⟨#[]⟩) (.string ⟨#[]⟩));exact av (v:=.tuple #[.agg #[.int .i64 0,.int .u32 0,.string ⟨#[]⟩,.string ⟨#[]⟩],.bool false]) (by simp[results,Tryz.results318,go_sem,d0,d1,d2,d3]) rfl ⟨by unfold xg;rw[HF.o];rfl,HX.o⟩
theorem Ln(sh:Nat)(p:Pr)(hsh:gH p.id=sh)(h1:1<=sh)(h7:sh<=7)(hn:p.n<4294967296)(h4:sh=4->p.n<=268435455)(ht:5<=sh->p.text.size<=65535)(hv:5<=sh->p.value.size<=65535)(w:World):
  Calls prog 380 #[p.val] w fun e w'=>e= .returned (.string (kc sh p))/\Below w.heap.size w w':=by
 obtain⟨id,n,t,v⟩:=p;simp only[Pr.val];have HN:Hid (n<4294967296):=aa hn;have H:=aa (And.intro hn (And.intro h4 (And.intro ht hv)));obtain⟨sh',ki,le,mo,hR⟩:∃sh ki le mo,cr id=⟨sh,ki,le,mo⟩:=⟨_,_,_,_,rfl⟩;have hs':sh'=sh:=by
  have:(cr id).shape=sh:=hsh;rw[hR]at this;exact this
 subst hs';have HR:=aa hR;clear hn h4 ht hv hsh hR;have hw:IntKind.u64.wrap (n:Int)=n:=by rw[iZ];have:=HN.o;omega
 have hw2:IntKind.i64.wrap (n:Int)=n:=by rw[aQ];have:=HN.o;omega
 have HL:=aa ((aq w.heap.size w).alloc (ac _) (.cells #[.int .i64 id,.int .u32 n,.string t,.string v] 102));have HZ:=aa (Bk.fresh w 102 #[.int .i64 id,.int .u32 n,.string t,.string v]);obtain rfl| rfl| rfl| rfl| hs:sh'=1\/sh'=2\/sh'=3\/sh'=4\/5<=sh':=by omega
 ·have HV:Hid (kc 1 ⟨id,n,t,v⟩=⟨(da n 1).toArray⟩):=aa rfl;go_enter func380,ntmps380
  go_wp2_with fail
  refine(Gz id _).mono ?_;rintro e w1 ⟨A,c,rfl,-,hb⟩;unfold Hp;rw[HR.o];have Z1:=aa (HZ.o.below hb HZ.o.lt);have L1:=aa (HL.o.trans (hb.mono HL.o.size));clear hb
  obtain⟨⟨c0,c1,c2,c3⟩,f0,f1,f2,f3⟩:=Z1.o.four
  go_wp2_with fail
  refine(GV n 1 _ (by have:=HN.o;omega) (by omega) (by omega)).mono ?_;rintro e w2 ⟨rfl,hb⟩;have L2:=aa (L1.o.trans (hb.mono L1.o.size));clear hb
  go_wp2;go_ret;exact⟨by rw[HV.o];rfl,L2.o⟩
 ·have HV:Hid (kc 2 ⟨id,n,t,v⟩=⟨(da n 2).toArray⟩):=aa rfl;go_enter func380,ntmps380
  go_wp2_with fail
  refine(Gz id _).mono ?_;rintro e w1 ⟨A,c,rfl,-,hb⟩;unfold Hp;rw[HR.o];have Z1:=aa (HZ.o.below hb HZ.o.lt);have L1:=aa (HL.o.trans (hb.mono HL.o.size));clear hb
  obtain⟨⟨c0,c1,c2,c3⟩,f0,f1,f2,f3⟩:=Z1.o.four
  go_wp2_with fail
  refine(GV n 2 _ (by have:=HN.o;omega) (by omega) (by omega)).mono ?_;rintro e w2 ⟨rfl,hb⟩;have L2:=aa (L1.o.trans (hb.mono L1.o.size));clear hb
  go_wp2;go_ret;exact⟨by rw[HV.o];rfl,L2.o⟩
 ·have HV:Hid (kc 3 ⟨id,n,t,v⟩=⟨(da n 4).toArray⟩):=aa rfl;go_enter func380,ntmps380
  go_wp2_with fail
  refine(Gz id _).mono ?_;rintro e w1 ⟨A,c,rfl,-,hb⟩;unfold Hp;rw[HR.o];have Z1:=aa (HZ.o.below hb HZ.o.lt);have L1:=aa (HL.o.trans (hb.mono HL.o.size));clear hb
  obtain⟨⟨c0,c1,c2,c3⟩,f0,f1,f2,f3⟩:=Z1.o.four
  go_wp2_with fail
  refine(GV n 4 _ (by have:=HN.o;omega) (by omega) (by omega)).mono ?_;rintro e w2 ⟨rfl,hb⟩;have L2:=aa (L1.o.trans (hb.mono L1.o.size));clear hb
  go_wp2;go_ret;exact⟨by rw[HV.o];rfl,L2.o⟩
 ·have HV:Hid (kc 4 ⟨id,n,t,v⟩=⟨(eP n).toArray⟩):=aa rfl;go_enter func380,ntmps380
  go_wp2_with fail
  refine(Gz id _).mono ?_;rintro e w1 ⟨A,c,rfl,-,hb⟩;unfold Hp;rw[HR.o];have Z1:=aa (HZ.o.below hb HZ.o.lt);have L1:=aa (HL.o.trans (hb.mono HL.o.size));clear hb
  obtain⟨⟨c0,c1,c2,c3⟩,f0,f1,f2,f3⟩:=Z1.o.four
  go_wp2_with fail
  refine(IB n _ (H.o.2.1 (by trivial))).mono ?_;rintro e w2 ⟨rfl,hb⟩;have L2:=aa (L1.o.trans (hb.mono L1.o.size));clear hb
  go_wp2;go_ret;exact⟨by rw[HV.o];rfl,L2.o⟩
 have HT:=aa (H.o.2.2.1 hs);have HVV:=aa (H.o.2.2.2 hs)
 have q1:((sh':Int)==1)=false:=ar.2 (by omega);have q2:((sh':Int)==2)=false:=ar.2 (by omega);have q3:((sh':Int)==3)=false:=ar.2 (by omega);have q4:((sh':Int)==4)=false:=ar.2 (by omega)
 by_cases h7':sh'=7
 ·have HV:Hid (kc sh' ⟨id,n,t,v⟩=cQ t++cQ v):=aa (by unfold kc;rw[ae (by omega),ae (by omega),ae (by omega),if_pos h7']);have hz1:(cQ t).size<=65537:=by rw[eN];have:=HT.o;simp only at this;omega
  have hz2:(cQ v).size<=65537:=by rw[eN];have:=HVV.o;simp only at this;omega
  have q7:((sh':Int)==7)=true:=aK.2 (by omega);obtain⟨X,hX⟩:∃X,cQ t=X:=⟨_,rfl⟩;obtain⟨Y,hY⟩:∃Y,cQ v=Y:=⟨_,rfl⟩;rw[hX]at hz1 HV;rw[hY]at hz2 HV;have HX:=aa hX;have HY:=aa hY
  have hsum:¬(9223372036854775807<X.size+Y.size):=by omega
  clear h7' hs h1 h7 hX hY;go_enter func380,ntmps380
  go_wp2_with fail
  refine(Gz id _).mono ?_;rintro e w1 ⟨A,c,rfl,-,hb⟩;unfold Hp;rw[HR.o];have Z1:=aa (HZ.o.below hb HZ.o.lt);have L1:=aa (HL.o.trans (hb.mono HL.o.size));clear hb
  obtain⟨⟨c0,c1,c2,c3⟩,f0,f1,f2,f3⟩:=Z1.o.four
  go_wp2_with fail
  refine(Hw t _ HT.o).mono ?_;rintro e w2 ⟨rfl,hb⟩;rw[HX.o];have Z2:=aa (Z1.o.below hb Z1.o.lt);have L2:=aa (L1.o.trans (hb.mono L1.o.size));clear hb c0 c1 c2 c3 f0 f1 f2 f3
  obtain⟨⟨c0,c1,c2,c3⟩,f0,f1,f2,f3⟩:=Z2.o.four
  go_wp2_with fail
  refine(Gz id _).mono ?_;rintro e w3 ⟨A,c,rfl,-,hb⟩;unfold Hp;rw[HR.o];have Z3:=aa (Z2.o.below hb Z2.o.lt);have L3:=aa (L2.o.trans (hb.mono L2.o.size));clear hb c0 c1 c2 c3 f0 f1 f2 f3
  obtain⟨⟨c0,c1,c2,c3⟩,f0,f1,f2,f3⟩:=Z3.o.four
  go_wp2_with fail
  refine(Hw v _ HVV.o).mono ?_;rintro e w4 ⟨rfl,hb⟩;rw[HY.o];have L4:=aa (L3.o.trans (hb.mono L3.o.size));clear hb
  go_wp2;go_ret;exact⟨by rw[HV.o];rfl,L4.o⟩
 ·have HV:Hid (kc sh' ⟨id,n,t,v⟩=cQ t):=aa (by unfold kc;rw[ae (by omega),ae (by omega),ae (by omega),ae h7']);have q7:((sh':Int)==7)=false:=ar.2 (by omega);clear h7' hs h1 h7;go_enter func380,ntmps380
  go_wp2_with fail
  refine(Gz id _).mono ?_;rintro e w1 ⟨A,c,rfl,-,hb⟩;unfold Hp;rw[HR.o];have Z1:=aa (HZ.o.below hb HZ.o.lt);have L1:=aa (HL.o.trans (hb.mono HL.o.size));clear hb
  obtain⟨⟨c0,c1,c2,c3⟩,f0,f1,f2,f3⟩:=Z1.o.four
  go_wp2_with fail
  refine(Hw t _ HT.o).mono ?_;rintro e w2 ⟨rfl,hb⟩;have Z2:=aa (Z1.o.below hb Z1.o.lt);have L2:=aa (L1.o.trans (hb.mono L1.o.size));clear hb c0 c1 c2 c3 f0 f1 f2 f3
  obtain⟨⟨c0,c1,c2,c3⟩,f0,f1,f2,f3⟩:=Z2.o.four
  go_wp2_with fail
  refine(Gz id _).mono ?_;rintro e w3 ⟨A,c,rfl,-,hb⟩;unfold Hp;rw[HR.o];have L3:=aa (L2.o.trans (hb.mono L2.o.size));clear hb c0 c1 c2 c3 f0 f1 f2 f3
  go_wp2;go_ret;exact⟨by rw[HV.o];rfl,L3.o⟩
def twB(kind:Int)(l:List Pr)(id:Int):Bool:=(nh l id).isSome&& !Km kind id
theorem Lo(kind id:Int)(l:List Pr)(n:Nat)(hn:l.length=n)(A:Option Addr)(c:Nat)(w:World)(h:Rd w w.heap.size 4 A n (prs l))(hl:n<=4611686018427387904):
  Calls prog 346 #[.int .i64 kind,.slice A n c,.int .i64 id] w fun e w'=>e= .returned (.bool (twB kind l id))/\Below w.heap.size w w':=by
 subst hn;have H:=aa h;clear h
 have HT:Hid (twB kind l id=((nh l id).isSome&& !Km kind id)):=aa rfl;cases hg:(nh l id).isSome
 ·have HX:Hid (twB kind l id=false):=aa (by rw[HT.o,hg];rfl);have HG:=aa hg;clear hg
  go_enter func346,ntmps346
  go_wp2_with fail
  refine(Hy id l A c _ H.o hl).mono ?_;rintro e w1 ⟨rfl,hb⟩;rw[HG.o];unfold Pr.val;have HB:=aa (hb.alloc hb.size (.cells #[.int .i64 (xg l id).id,.int .u32 (xg l id).n,.string (xg l id).text,.string (xg l id).value] 102));clear hb
  go_wp2;go_ret;exact⟨by rw[HX.o];rfl,HB.o⟩
 ·have HX:Hid (twB kind l id= !Km kind id):=aa (by rw[HT.o,hg];rfl);have HG:=aa hg;clear hg
  go_enter func346,ntmps346
  go_wp2_with fail
  refine(Hy id l A c _ H.o hl).mono ?_;rintro e w1 ⟨rfl,hb⟩;rw[HG.o];unfold Pr.val;have HB:=aa (hb.alloc hb.size (.cells #[.int .i64 (xg l id).id,.int .u32 (xg l id).n,.string (xg l id).text,.string (xg l id).value] 102));clear hb
  go_wp2_with fail
  refine(Lp kind id _).mono ?_;rintro e w2 ⟨rfl,hb⟩;have HB2:=aa (HB.o.trans (hb.mono HB.o.size));clear hb
  go_wp2;go_ret;exact⟨by rw[HX.o];rfl,HB2.o⟩
def Kn(l:List Pr):Bool:=(nh l 22).isSome&& !(nh l 21).isSome
theorem JN(l:List Pr)(n:Nat)(hn:l.length=n)(A:Option Addr)(c:Nat)(w:World)(h:Rd w w.heap.size 4 A n (prs l))(hl:n<=4611686018427387904):
  Calls prog 347 #[.slice A n c] w fun e w'=>e= .returned (.bool (Kn l))/\Below w.heap.size w w':=by
 subst hn;have H:=aa h;clear h
 have HT:Hid (Kn l=((nh l 22).isSome&& !(nh l 21).isSome)):=aa rfl;cases hg:(nh l 22).isSome<;>cases hm:(nh l 21).isSome
 all_goals
  have HX:=aa (HT.o.trans (by rw[hg,hm]));have HG:=aa hg;have HM:=aa hm;clear hg hm
  go_enter func347,ntmps347
  go_wp2_with fail
  refine(Hy 22 l A c _ H.o hl).mono ?_;rintro e w1 ⟨rfl,hb⟩;rw[HG.o];unfold Pr.val;have HB:=aa (hb.alloc hb.size (.cells #[.int .i64 (xg l 22).id,.int .u32 (xg l 22).n,.string (xg l 22).text,.string (xg l 22).value] 102));clear hb
  go_wp2_with fail
  refine(Hy 21 l A c _ ((H.o.below HB.o).wider HB.o.size) hl).mono ?_;rintro e w2 ⟨rfl,hb⟩;rw[HM.o];unfold Pr.val;have HB2:=aa ((HB.o.trans (hb.mono HB.o.size)).alloc (HB.o.trans (hb.mono HB.o.size)).size (.cells #[.int .i64 (xg l 21).id,.int .u32 (xg l 21).n,.string (xg l 21).text,.string (xg l 21).value] 102));clear hb
  go_wp2;go_ret;exact⟨by rw[HX.o];rfl,HB2.o⟩
end
end Go.Proofs.YtbdgkkmbnahgiaaGreatDoor
