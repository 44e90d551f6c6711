/- A part of what the laws stand on: MReaA, MReaB. -/
import Derived.Test.YtbdgkkmbnahgiaaGreatDoorMxG0MKit
import Derived.RegionTactic
set_option maxRecDepth 10000
set_option maxHeartbeats 8000000
namespace Go.Proofs.YtbdgkkmbnahgiaaGreatDoor
open Go.RowKit Go.Proofs.Tryz
section
@[reducible] def FJ(l:List Nat):List Value:=l.map fun c:Nat=>Value.int .i64 (c:Int)
def bw(W:Nat->Nat):Array Value:=#[.int .u64 (W 0),.int .u64 (W 1),.int .u64 (W 2),.int .u64 (W 3)]
theorem fw(W:Nat->Nat):bw W= #[.int .u64 (W 0),.int .u64 (W 1),.int .u64 (W 2),.int .u64 (W 3)]:=rfl
def kX(W:Nat->Nat)(c:Nat):Nat->Nat:=fun i=>if i=c/ 64 then W i ||| 2^ (c% 64)else W i
theorem tT(W:Nat->Nat)(c:Nat)(h:c<256):(bw W)[c/ 64]? =some (.int .u64 (W (c/ 64))):=by
 obtain h| h| h| h:c/ 64=0\/c/ 64=1\/c/ 64=2\/c/ 64=3:=by omega
 all_goals rw[h];rfl
def Wok(W:Nat->Nat):Prop:=∀i,W i<18446744073709551616
theorem Dz{W:Nat->Nat}(h:Wok W)(c:Nat):Wok (kX W c):=by
 intro i;unfold kX;split
 ·exact Nat.or_lt_two_pow (n:=64) (h i) (ch (Nat.pow_lt_pow_right (by omega) (iI c (by omega):c% 64<64)) (ac _))
 ·exact h i
theorem vX(W:Nat->Nat)(c:Nat)(hc:c<256):(bw W).setIfInBounds (c/ 64) (.int .u64 ((W (c/ 64) ||| 2^ (c% 64):Nat):Int))=bw (kX W c):=by
 obtain h| h| h| h:c/ 64=0\/c/ 64=1\/c/ 64=2\/c/ 64=3:=by omega
 all_goals
  rw[h];simp[bw,kX,h]
theorem qA(l:List Nat):∀ {W:Nat->Nat},Wok W->Wok (l.foldl kX W):=by
 induction l with
 | nil=>intro W h;exact h
 | cons c l ih=>intro W h;exact ih (Dz h c)
theorem zI{W:Nat->Nat}(h:Wok W)(c:Nat):bits BinOp.or IntKind.u64 (↑(W (c/ 64))) (IntKind.u64.wrap (2^ (c% 64)))=((W (c/ 64) ||| 2^ (c% 64):Nat):Int):=by
 have h2:(2:Nat) ^ (c% 64)<18446744073709551616:=ch (Nat.pow_lt_pow_right (by omega) (iI c (by omega):c% 64<64)) (ac _);have e:IntKind.u64.wrap ((2:Int) ^ (c% 64))=((2^ (c% 64):Nat):Int):=by
  rw[iZ];have:((2:Int) ^ (c% 64))=((2^ (c% 64):Nat):Int):=by simp
  rw[this];have h3:((2^ (c% 64):Nat):Int)<((18446744073709551616:Nat):Int):=Int.ofNat_lt.2 h2;have h4:(0:Int)<=((2^ (c% 64):Nat):Int):=Int.natCast_nonneg _;generalize ((2^ (c% 64):Nat):Int)=z at*;omega
 rw[e,u64_or_nat _ _ (h _) h2]
theorem oY{l:List Nat}{k:Nat}(h:k<l.length)(W:Nat->Nat):(l.take (k+1)).foldl kX W=kX ((l.take k).foldl kX W) l[k]:=by
 rw[fE h,List.foldl_append];rfl
theorem tR(W:Nat->Nat)(A:Option Addr)(l:List Nat)(cap:Nat)(w:World)(hW:Wok W)(hl:∀c∈l,c<256)(hn:l.length<=1000)
  (hr:Rd w w.heap.size 1 A l.length (FJ l)):
  Calls prog 237 #[.agg (bw W),.slice A l.length cap] w fun e w'=>e= .returned (.agg (bw (l.foldl kX W)))/\Below w.heap.size w w':=by
 have HW:=aa hW;have Hl:=aa hl;clear hW hl
 go_enter func237,ntmps237;go_wp2
 go_loopw [9] (fun i wr=>∃k:Nat,k<=l.length/\i= .int .i64 k/\Bk wr w.heap.size 195 (bw ((l.take k).foldl kX W))/\Bk wr (w.heap.size+1) 195 #[.int .u64 0,.int .u64 0,.int .u64 0,.int .u64 0]/\Below w.heap.size w wr) (fun i _=>l.length- (intOf i).toNat)
 case atStart=>
  refine⟨0,ag _,rfl,?_,?_,?_⟩
  ·simpa using (Bk.fresh w 195 (bw W)).alloc _
  ·simpa using Bk.fresh (w.alloc (.cells (bw W) 195)) 195 _
  ·exact((aq _ _).alloc (ac _) _).alloc (by simp) _
 case round=>
  obtain⟨k,hk,rfl,hbk,hcs,hbel⟩:=hrel;have Hbk:=aa hbk;have Hcs:=aa hcs
  by_cases hlt:k<l.length
  ·obtain⟨bA,oA,u,rfl,hadb,hu,hcell⟩:=(hr.below hbel).at1 hlt;have hu':u= .int .i64 (l[k]:Nat):=by simpa [hlt]using hu.symm
   subst hu';have hc256:l[k]<256:=Hl.o _ (iY hlt);have HW':=aa (qA (l.take k) HW.o);have HT:=aa (oY hlt W);generalize (l.take k).foldl kX W=W' at*;have hwc:wr.cell? ⟨w.heap.size,l[k] / 64,none⟩=some (.int .u64 (W' (l[k] / 64))):=by
    rw[hbk.cell,tT _ _ hc256]
   have hfr:=hbk.free (l[k] / 64);generalize l[k]=c at*;clear hbk hcs hr hu;go_wp2
   go_roundw
   case rel=>
    rw[zI HW'.o];refine⟨k+1,by omega,by go_num,?_,Hcs.o.other (by simp) _,hbel.setCell (by simp) _⟩;rw[HT.o,<-vX _ _ hc256];exact Hbk.o.put _ _
   case measure=>simp[intOf];omega
  ·have:k=l.length:=by omega
   subst this;rw[GK]at*;have c0:=hbk.cell 0;have c1:=hbk.cell 1;have c2:=hbk.cell 2;have c3:=hbk.cell 3;have d0:=hcs.cell 0;have d1:=hcs.cell 1;have d2:=hcs.cell 2;have d3:=hcs.cell 3;have f0:=hcs.free 0;have f1:=hcs.free 1;have f2:=hcs.free 2;have f3:=hcs.free 3;simp[bw]at c0 c1 c2 c3 d0 d1 d2 d3;clear hbk hcs;go_wp2;exact av (v:=.agg (bw (l.foldl kX W))) (by simp[results,Tryz.results237,go_sem,bw,d0,d1,d2,d3]) rfl ⟨rfl,(((hbel.setCell (by simp) _).setCell (by simp) _).setCell (by simp) _).setCell (by simp) _⟩
def jr(W:Nat->Nat)(a n:Nat):Nat->Nat:=(List.range' a n).foldl kX W
theorem yZ(W:Nat->Nat)(a n:Nat):jr W a (n+1)=kX (jr W a n) (a+n):=by
 unfold jr;rw[List.range'_concat,List.foldl_append];simp
theorem mQ{W:Nat->Nat}(h:Wok W)(a n:Nat):Wok (jr W a n):=qA _ h
theorem AO(W:Nat->Nat)(a b:Int)(w:World)(hW:Wok W)(h0:0<=a)(hab:a<=b)(hb:b<256):
  Calls prog 238 #[.agg (bw W),.int .i64 a,.int .i64 b] w fun e w'=>e= .returned (.agg (bw (jr W a.toNat (b+1- a).toNat)))/\Below w.heap.size w w':=by
 have HW:=aa hW;clear hW
 go_enter func238,ntmps238;go_wp2
 go_loopw [7] (fun i wr=>∃k:Nat,a+k<=b+1/\i= .int .i64 (a+k)/\Bk wr w.heap.size 195 (bw (jr W a.toNat k))/\Bk wr (w.heap.size+1) 195 #[.int .u64 0,.int .u64 0,.int .u64 0,.int .u64 0]/\Below w.heap.size w wr) (fun i _=>(b+1- intOf i).toNat)
 case atStart=>
  refine⟨0,by omega,by simp,?_,?_,?_⟩
  ·simpa [jr]using (Bk.fresh w 195 (bw W)).alloc _
  ·simpa using Bk.fresh (w.alloc (.cells (bw W) 195)) 195 _
  ·exact((aq _ _).alloc (ac _) _).alloc (by simp) _
 case round=>
  obtain⟨k,hk,rfl,hbk,hcs,hbel⟩:=hrel;have Hbk:=aa hbk;have Hcs:=aa hcs
  obtain⟨⟨c0,c1,c2,c3⟩,f0,f1,f2,f3⟩:=hbk.four;obtain⟨⟨d0,d1,d2,d3⟩,g0,g1,g2,g3⟩:=hcs.four;have hz:w.heap.size+1<wr.heap.size:=hcs.lt
  by_cases hlt:a+k<=b
  ·clear hbk hcs
   go_wp2_with fail
   refine(tR (jr W a.toNat k) (some ⟨wr.heap.size,0,none⟩) [(a+k).toNat] 1 _ (mQ HW.o _ _) ?_ (by simp) ?_).mono ?_
   ·intro c hc;simp at hc;omega
   ·have e:((a+k).toNat:Int)=a+k:=by omega
    simp only[FJ,fI,gC,e]
    simpa using Rd.fresh wr #[_] _
   rintro e w1 ⟨rfl,hb1⟩;have HU:Hid ([(a+k).toNat].foldl kX (jr W a.toNat k)=jr W a.toNat (k+1)):=aa (by rw[yZ];simp[show(a+k).toNat=a.toNat+k by omega]);have hbk1:=((Hbk.o.alloc _).below hb1 (by simp;omega));have hcs1:=((Hcs.o.alloc _).below hb1 (by simp;omega));have hbel1:=aa ((hbel.alloc (by omega) _).trans (hb1.mono (by simp;omega)));clear hb1 c0 c1 c2 c3 d0 d1 d2 d3 f0 f1 f2 f3 g0 g1 g2 g3 Hbk Hcs;generalize [(a+k).toNat].foldl kX (jr W a.toNat k)=W2 at*;obtain⟨⟨c0,c1,c2,c3⟩,f0,f1,f2,f3⟩:=hbk1.four;have Hbk:=aa hbk1;have Hcs:=aa hcs1
   rw[show bw W2= #[.int .u64 (W2 0),.int .u64 (W2 1),.int .u64 (W2 2),.int .u64 (W2 3)]from rfl];clear hbk1 hcs1;go_wp2
   go_roundw
   case rel=>
    refine⟨k+1,by omega,by simp;omega,?_,Hcs.o.put_other (by omega),cD hbel1.out (by omega) _ _ _ _⟩;rw[<-HU.o];exact Hbk.o.put_four
   case measure=>simp[intOf];omega
  ·go_wp2;obtain rfl:k=(b+1- a).toNat:=by omega
   exact av (v:=.agg (bw (jr W a.toNat (b+1- a).toNat))) (by simp[results,Tryz.results238,go_sem,bw,d0,d1,d2,d3]) rfl ⟨rfl,cD hbel (by simp) _ _ _ _⟩
theorem pg(W:Nat->Nat)(a b:Int)(na n:Nat)(w:World)(hW:Wok W)(ha:a=na)(hn:b+1=a+n)(hab:a<=b)(hb:b<256):
  Calls prog 238 #[.agg (bw W),.int .i64 a,.int .i64 b] w fun e w'=>e= .returned (.agg (bw (jr W na n)))/\Below w.heap.size w w':=by
 have h:=AO W a b w hW (by omega) hab hb;rwa[show a.toNat=na by omega,show(b+1- a).toNat=n by omega]at h
def oD:Nat->Nat:=fun _=>0
theorem pJ:Wok oD:=fun _=>by unfold oD;omega
def wl(l:List Nat):Nat->Nat:=l.foldl kX oD
theorem Fk(l:List Nat):l.foldl kX oD=wl l:=rfl
theorem rC(l:List Nat):Wok (wl l):=qA _ pJ
attribute [irreducible] jr wl
theorem fV(A:Option Addr)(l:List Nat)(cap:Nat)(w:World)(hl:∀c∈l,c<256)(hn:l.length<=1000)(hr:Rd w w.heap.size 1 A l.length (FJ l)):
  Calls prog 237 #[.agg #[.int .u64 0,.int .u64 0,.int .u64 0,.int .u64 0],.slice A l.length cap] w fun e w'=>e= .returned (.agg (bw (wl l)))/\Below w.heap.size w w':=
 by rw[<-Fk];exact tR oD A l cap w pJ hl hn hr
def codes(kind:Int):Nat->Nat:=
 if kind=2 then jr (jr (wl [0,140,144,149,151,159]) 128 11) 153 5
 else if kind=4\/kind=5 then wl [0,16,128,131,135,144,145,151,153]
 else if kind=6\/kind=7 then wl [0,146]
 else if kind=9 then wl [0,1,2,128,131,135,143,145,151,158,161,162]
 else if kind=11 then wl [0,17,128,131,135,143,145]
 else if kind=14 then jr (jr (wl [0,4,135,137,139,141,142,143,144]) 128 4) 147 16
 else if kind=15 then wl [0,24,25]
 else oD
end
theorem EW(w:World):
  Calls prog 177 #[.int .i64 2] w fun e w'=>e= .returned (.agg (bw (codes 2)))/\Below w.heap.size w w':=by
 have Z0:=(Bk.fresh w 195 #[.int .u64 0,.int .u64 0,.int .u64 0,.int .u64 0]).alloc (.cells #[.int .u64 0,.int .u64 0,.int .u64 0,.int .u64 0] 195);have Z1:Bk ((w.alloc (.cells #[.int .u64 0,.int .u64 0,.int .u64 0,.int .u64 0] 195)).alloc (.cells #[.int .u64 0,.int .u64 0,.int .u64 0,.int .u64 0] 195)) (w.heap.size+1) 195 #[.int .u64 0,.int .u64 0,.int .u64 0,.int .u64 0]:=by simpa using Bk.fresh (w.alloc (.cells #[.int .u64 0,.int .u64 0,.int .u64 0,.int .u64 0] 195)) 195 #[.int .u64 0,.int .u64 0,.int .u64 0,.int .u64 0]
 have hbel:=((aq w.heap.size w).alloc (ac _) (.cells #[.int .u64 0,.int .u64 0,.int .u64 0,.int .u64 0] 195)).alloc (by simp) (.cells #[.int .u64 0,.int .u64 0,.int .u64 0,.int .u64 0] 195);have HZ0:=aa Z0;have HZ1:=aa Z1;have HL:=aa hbel;clear Z0 Z1 hbel
 go_enter func177,ntmps177
 go_wp2_with fail
 refine(fV _ [0,140,144,149,151,159] _ _ (by decide) (by decide) (Rd.lit _ _ _ (by simp) (by simp) rfl)).mono ?_;rintro e w1 ⟨rfl,hb1⟩;have hbk1:=(HZ0.o.alloc _).below hb1 (by simp;omega);have hcs1:=(HZ1.o.alloc _).below hb1 (by simp);have hbel1:=(HL.o.alloc (by simp;omega) _).trans (hb1.mono (by simp;omega));clear hb1;have Hb:=aa hbk1;have Hc:=aa hcs1;have Hl:=aa hbel1
 clear hbk1 hcs1 hbel1
 go_wp2_with fail
 refine(pg (wl [0,140,144,149,151,159]) 128 138 128 11 _ (rC _) (by omega) (by omega) (by omega) (by omega)).mono ?_;rintro e w2 ⟨rfl,hb1⟩;have hbk1:=Hb.o.below hb1 Hb.o.lt;have hcs1:=Hc.o.below hb1 Hc.o.lt;have hbel1:=Hl.o.trans (hb1.mono (by have:=Hb.o.lt;omega));clear hb1 Hb Hc Hl;have Hb:=aa hbk1;have Hc:=aa hcs1;have Hl:=aa hbel1
 clear hbk1 hcs1 hbel1
 go_wp2_with fail
 refine(pg (jr (wl [0,140,144,149,151,159]) 128 11) 153 157 153 5 _ (mQ (rC _) _ _) (by omega) (by omega) (by omega) (by omega)).mono ?_;rintro e w3 ⟨rfl,hb1⟩;have hbk1:=Hb.o.below hb1 Hb.o.lt;have hcs1:=Hc.o.below hb1 Hc.o.lt;have hbel1:=Hl.o.trans (hb1.mono (by have:=Hb.o.lt;omega));clear hb1 Hb Hc Hl;obtain⟨C,hG⟩:∃C,C=codes 2:=⟨_,rfl⟩;rw[show jr (jr (wl [0,140,144,149,151,159]) 128 11) 153 5=C by rw[hG];simp[codes],fw C];have HG:=aa hG;clear hG
 obtain⟨⟨c0,c1,c2,c3⟩,f0,f1,f2,f3⟩:=hcs1.four;obtain⟨⟨d0,d1,d2,d3⟩,g0,g1,g2,g3⟩:=hbk1.four;have hbel2:=aa (cD (cD hbel1 (g:=w.heap.size+1) (by omega) (.int .u64 (C 0)) (.int .u64 (C 1)) (.int .u64 (C 2)) (.int .u64 (C 3))) (g:=w.heap.size) (by omega) (.int .u64 (C 0)) (.int .u64 (C 1)) (.int .u64 (C 2)) (.int .u64 (C 3)));clear hbel1 hbk1 hcs1;go_wp2;exact av (v:=.agg (bw C)) (by simp[results,Tryz.results177,go_sem,bw,d0,d1,d2,d3]) rfl ⟨by rw[HG.o],hbel2.out⟩
theorem EV(w:World):
  Calls prog 177 #[.int .i64 4] w fun e w'=>e= .returned (.agg (bw (codes 4)))/\Below w.heap.size w w':=by
 have Z0:=(Bk.fresh w 195 #[.int .u64 0,.int .u64 0,.int .u64 0,.int .u64 0]).alloc (.cells #[.int .u64 0,.int .u64 0,.int .u64 0,.int .u64 0] 195);have Z1:Bk ((w.alloc (.cells #[.int .u64 0,.int .u64 0,.int .u64 0,.int .u64 0] 195)).alloc (.cells #[.int .u64 0,.int .u64 0,.int .u64 0,.int .u64 0] 195)) (w.heap.size+1) 195 #[.int .u64 0,.int .u64 0,.int .u64 0,.int .u64 0]:=by simpa using Bk.fresh (w.alloc (.cells #[.int .u64 0,.int .u64 0,.int .u64 0,.int .u64 0] 195)) 195 #[.int .u64 0,.int .u64 0,.int .u64 0,.int .u64 0]
 have hbel:=((aq w.heap.size w).alloc (ac _) (.cells #[.int .u64 0,.int .u64 0,.int .u64 0,.int .u64 0] 195)).alloc (by simp) (.cells #[.int .u64 0,.int .u64 0,.int .u64 0,.int .u64 0] 195);have HZ0:=aa Z0;have HZ1:=aa Z1;have HL:=aa hbel;clear Z0 Z1 hbel
 go_enter func177,ntmps177
 go_wp2_with fail
 refine(fV _ [0,16,128,131,135,144,145,151,153] _ _ (by decide) (by decide) (Rd.lit _ _ _ (by simp) (by simp) rfl)).mono ?_;rintro e w1 ⟨rfl,hb1⟩;have hbk1:=(HZ0.o.alloc _).below hb1 (by simp;omega);have hcs1:=(HZ1.o.alloc _).below hb1 (by simp);have hbel1:=(HL.o.alloc (by simp;omega) _).trans (hb1.mono (by simp;omega));clear hb1;obtain⟨C,hG⟩:∃C,C=codes 4:=⟨_,rfl⟩;rw[show wl [0,16,128,131,135,144,145,151,153]=C by rw[hG];simp[codes],fw C];have HG:=aa hG;clear hG
 obtain⟨⟨c0,c1,c2,c3⟩,f0,f1,f2,f3⟩:=hcs1.four;obtain⟨⟨d0,d1,d2,d3⟩,g0,g1,g2,g3⟩:=hbk1.four;have hbel2:=aa (cD (cD hbel1 (g:=w.heap.size+1) (by omega) (.int .u64 (C 0)) (.int .u64 (C 1)) (.int .u64 (C 2)) (.int .u64 (C 3))) (g:=w.heap.size) (by omega) (.int .u64 (C 0)) (.int .u64 (C 1)) (.int .u64 (C 2)) (.int .u64 (C 3)));clear hbel1 hbk1 hcs1;go_wp2;exact av (v:=.agg (bw C)) (by simp[results,Tryz.results177,go_sem,bw,d0,d1,d2,d3]) rfl ⟨by rw[HG.o],hbel2.out⟩
theorem EU(w:World):
  Calls prog 177 #[.int .i64 5] w fun e w'=>e= .returned (.agg (bw (codes 5)))/\Below w.heap.size w w':=by
 have Z0:=(Bk.fresh w 195 #[.int .u64 0,.int .u64 0,.int .u64 0,.int .u64 0]).alloc (.cells #[.int .u64 0,.int .u64 0,.int .u64 0,.int .u64 0] 195);have Z1:Bk ((w.alloc (.cells #[.int .u64 0,.int .u64 0,.int .u64 0,.int .u64 0] 195)).alloc (.cells #[.int .u64 0,.int .u64 0,.int .u64 0,.int .u64 0] 195)) (w.heap.size+1) 195 #[.int .u64 0,.int .u64 0,.int .u64 0,.int .u64 0]:=by simpa using Bk.fresh (w.alloc (.cells #[.int .u64 0,.int .u64 0,.int .u64 0,.int .u64 0] 195)) 195 #[.int .u64 0,.int .u64 0,.int .u64 0,.int .u64 0]
 have hbel:=((aq w.heap.size w).alloc (ac _) (.cells #[.int .u64 0,.int .u64 0,.int .u64 0,.int .u64 0] 195)).alloc (by simp) (.cells #[.int .u64 0,.int .u64 0,.int .u64 0,.int .u64 0] 195);have HZ0:=aa Z0;have HZ1:=aa Z1;have HL:=aa hbel;clear Z0 Z1 hbel
 go_enter func177,ntmps177
 go_wp2_with fail
 refine(fV _ [0,16,128,131,135,144,145,151,153] _ _ (by decide) (by decide) (Rd.lit _ _ _ (by simp) (by simp) rfl)).mono ?_;rintro e w1 ⟨rfl,hb1⟩;have hbk1:=(HZ0.o.alloc _).below hb1 (by simp;omega);have hcs1:=(HZ1.o.alloc _).below hb1 (by simp);have hbel1:=(HL.o.alloc (by simp;omega) _).trans (hb1.mono (by simp;omega));clear hb1;obtain⟨C,hG⟩:∃C,C=codes 5:=⟨_,rfl⟩;rw[show wl [0,16,128,131,135,144,145,151,153]=C by rw[hG];simp[codes],fw C];have HG:=aa hG;clear hG
 obtain⟨⟨c0,c1,c2,c3⟩,f0,f1,f2,f3⟩:=hcs1.four;obtain⟨⟨d0,d1,d2,d3⟩,g0,g1,g2,g3⟩:=hbk1.four;have hbel2:=aa (cD (cD hbel1 (g:=w.heap.size+1) (by omega) (.int .u64 (C 0)) (.int .u64 (C 1)) (.int .u64 (C 2)) (.int .u64 (C 3))) (g:=w.heap.size) (by omega) (.int .u64 (C 0)) (.int .u64 (C 1)) (.int .u64 (C 2)) (.int .u64 (C 3)));clear hbel1 hbk1 hcs1;go_wp2;exact av (v:=.agg (bw C)) (by simp[results,Tryz.results177,go_sem,bw,d0,d1,d2,d3]) rfl ⟨by rw[HG.o],hbel2.out⟩
theorem ET(w:World):
  Calls prog 177 #[.int .i64 6] w fun e w'=>e= .returned (.agg (bw (codes 6)))/\Below w.heap.size w w':=by
 have Z0:=(Bk.fresh w 195 #[.int .u64 0,.int .u64 0,.int .u64 0,.int .u64 0]).alloc (.cells #[.int .u64 0,.int .u64 0,.int .u64 0,.int .u64 0] 195);have Z1:Bk ((w.alloc (.cells #[.int .u64 0,.int .u64 0,.int .u64 0,.int .u64 0] 195)).alloc (.cells #[.int .u64 0,.int .u64 0,.int .u64 0,.int .u64 0] 195)) (w.heap.size+1) 195 #[.int .u64 0,.int .u64 0,.int .u64 0,.int .u64 0]:=by simpa using Bk.fresh (w.alloc (.cells #[.int .u64 0,.int .u64 0,.int .u64 0,.int .u64 0] 195)) 195 #[.int .u64 0,.int .u64 0,.int .u64 0,.int .u64 0]
 have hbel:=((aq w.heap.size w).alloc (ac _) (.cells #[.int .u64 0,.int .u64 0,.int .u64 0,.int .u64 0] 195)).alloc (by simp) (.cells #[.int .u64 0,.int .u64 0,.int .u64 0,.int .u64 0] 195);have HZ0:=aa Z0;have HZ1:=aa Z1;have HL:=aa hbel;clear Z0 Z1 hbel
 go_enter func177,ntmps177
 go_wp2_with fail
 refine(fV _ [0,146] _ _ (by decide) (by decide) (Rd.lit _ _ _ (by simp) (by simp) rfl)).mono ?_;rintro e w1 ⟨rfl,hb1⟩;have hbk1:=(HZ0.o.alloc _).below hb1 (by simp;omega);have hcs1:=(HZ1.o.alloc _).below hb1 (by simp);have hbel1:=(HL.o.alloc (by simp;omega) _).trans (hb1.mono (by simp;omega));clear hb1;obtain⟨C,hG⟩:∃C,C=codes 6:=⟨_,rfl⟩;rw[show wl [0,146]=C by rw[hG];simp[codes],fw C];have HG:=aa hG;clear hG
 obtain⟨⟨c0,c1,c2,c3⟩,f0,f1,f2,f3⟩:=hcs1.four;obtain⟨⟨d0,d1,d2,d3⟩,g0,g1,g2,g3⟩:=hbk1.four;have hbel2:=aa (cD (cD hbel1 (g:=w.heap.size+1) (by omega) (.int .u64 (C 0)) (.int .u64 (C 1)) (.int .u64 (C 2)) (.int .u64 (C 3))) (g:=w.heap.size) (by omega) (.int .u64 (C 0)) (.int .u64 (C 1)) (.int .u64 (C 2)) (.int .u64 (C 3)));clear hbel1 hbk1 hcs1;go_wp2;exact av (v:=.agg (bw C)) (by simp[results,Tryz.results177,go_sem,bw,d0,d1,d2,d3]) rfl ⟨by rw[HG.o],hbel2.out⟩
theorem ES(w:World):
  Calls prog 177 #[.int .i64 7] w fun e w'=>e= .returned (.agg (bw (codes 7)))/\Below w.heap.size w w':=by
 have Z0:=(Bk.fresh w 195 #[.int .u64 0,.int .u64 0,.int .u64 0,.int .u64 0]).alloc (.cells #[.int .u64 0,.int .u64 0,.int .u64 0,.int .u64 0] 195);have Z1:Bk ((w.alloc (.cells #[.int .u64 0,.int .u64 0,.int .u64 0,.int .u64 0] 195)).alloc (.cells #[.int .u64 0,.int .u64 0,.int .u64 0,.int .u64 0] 195)) (w.heap.size+1) 195 #[.int .u64 0,.int .u64 0,.int .u64 0,.int .u64 0]:=by simpa using Bk.fresh (w.alloc (.cells #[.int .u64 0,.int .u64 0,.int .u64 0,.int .u64 0] 195)) 195 #[.int .u64 0,.int .u64 0,.int .u64 0,.int .u64 0]
 have hbel:=((aq w.heap.size w).alloc (ac _) (.cells #[.int .u64 0,.int .u64 0,.int .u64 0,.int .u64 0] 195)).alloc (by simp) (.cells #[.int .u64 0,.int .u64 0,.int .u64 0,.int .u64 0] 195);have HZ0:=aa Z0;have HZ1:=aa Z1;have HL:=aa hbel;clear Z0 Z1 hbel
 go_enter func177,ntmps177
 go_wp2_with fail
 refine(fV _ [0,146] _ _ (by decide) (by decide) (Rd.lit _ _ _ (by simp) (by simp) rfl)).mono ?_;rintro e w1 ⟨rfl,hb1⟩;have hbk1:=(HZ0.o.alloc _).below hb1 (by simp;omega);have hcs1:=(HZ1.o.alloc _).below hb1 (by simp);have hbel1:=(HL.o.alloc (by simp;omega) _).trans (hb1.mono (by simp;omega));clear hb1;obtain⟨C,hG⟩:∃C,C=codes 7:=⟨_,rfl⟩;rw[show wl [0,146]=C by rw[hG];simp[codes],fw C];have HG:=aa hG;clear hG
 obtain⟨⟨c0,c1,c2,c3⟩,f0,f1,f2,f3⟩:=hcs1.four;obtain⟨⟨d0,d1,d2,d3⟩,g0,g1,g2,g3⟩:=hbk1.four;have hbel2:=aa (cD (cD hbel1 (g:=w.heap.size+1) (by omega) (.int .u64 (C 0)) (.int .u64 (C 1)) (.int .u64 (C 2)) (.int .u64 (C 3))) (g:=w.heap.size) (by omega) (.int .u64 (C 0)) (.int .u64 (C 1)) (.int .u64 (C 2)) (.int .u64 (C 3)));clear hbel1 hbk1 hcs1;go_wp2;exact av (v:=.agg (bw C)) (by simp[results,Tryz.results177,go_sem,bw,d0,d1,d2,d3]) rfl ⟨by rw[HG.o],hbel2.out⟩
theorem ER(w:World):
  Calls prog 177 #[.int .i64 9] w fun e w'=>e= .returned (.agg (bw (codes 9)))/\Below w.heap.size w w':=by
 have Z0:=(Bk.fresh w 195 #[.int .u64 0,.int .u64 0,.int .u64 0,.int .u64 0]).alloc (.cells #[.int .u64 0,.int .u64 0,.int .u64 0,.int .u64 0] 195);have Z1:Bk ((w.alloc (.cells #[.int .u64 0,.int .u64 0,.int .u64 0,.int .u64 0] 195)).alloc (.cells #[.int .u64 0,.int .u64 0,.int .u64 0,.int .u64 0] 195)) (w.heap.size+1) 195 #[.int .u64 0,.int .u64 0,.int .u64 0,.int .u64 0]:=by simpa using Bk.fresh (w.alloc (.cells #[.int .u64 0,.int .u64 0,.int .u64 0,.int .u64 0] 195)) 195 #[.int .u64 0,.int .u64 0,.int .u64 0,.int .u64 0]
 have hbel:=((aq w.heap.size w).alloc (ac _) (.cells #[.int .u64 0,.int .u64 0,.int .u64 0,.int .u64 0] 195)).alloc (by simp) (.cells #[.int .u64 0,.int .u64 0,.int .u64 0,.int .u64 0] 195);have HZ0:=aa Z0;have HZ1:=aa Z1;have HL:=aa hbel;clear Z0 Z1 hbel
 go_enter func177,ntmps177
 go_wp2_with fail
 refine(fV _ [0,1,2,128,131,135,143,145,151,158,161,162] _ _ (by decide) (by decide) (Rd.lit _ _ _ (by simp) (by simp) rfl)).mono ?_;rintro e w1 ⟨rfl,hb1⟩;have hbk1:=(HZ0.o.alloc _).below hb1 (by simp;omega);have hcs1:=(HZ1.o.alloc _).below hb1 (by simp);have hbel1:=(HL.o.alloc (by simp;omega) _).trans (hb1.mono (by simp;omega));clear hb1;obtain⟨C,hG⟩:∃C,C=codes 9:=⟨_,rfl⟩;rw[show wl [0,1,2,128,131,135,143,145,151,158,161,162]=C by rw[hG];simp[codes],fw C];have HG:=aa hG;clear hG
 obtain⟨⟨c0,c1,c2,c3⟩,f0,f1,f2,f3⟩:=hcs1.four;obtain⟨⟨d0,d1,d2,d3⟩,g0,g1,g2,g3⟩:=hbk1.four;have hbel2:=aa (cD (cD hbel1 (g:=w.heap.size+1) (by omega) (.int .u64 (C 0)) (.int .u64 (C 1)) (.int .u64 (C 2)) (.int .u64 (C 3))) (g:=w.heap.size) (by omega) (.int .u64 (C 0)) (.int .u64 (C 1)) (.int .u64 (C 2)) (.int .u64 (C 3)));clear hbel1 hbk1 hcs1;go_wp2;exact av (v:=.agg (bw C)) (by simp[results,Tryz.results177,go_sem,bw,d0,d1,d2,d3]) rfl ⟨by rw[HG.o],hbel2.out⟩
theorem Dj(w:World):
  Calls prog 177 #[.int .i64 11] w fun e w'=>e= .returned (.agg (bw (codes 11)))/\Below w.heap.size w w':=by
 have Z0:=(Bk.fresh w 195 #[.int .u64 0,.int .u64 0,.int .u64 0,.int .u64 0]).alloc (.cells #[.int .u64 0,.int .u64 0,.int .u64 0,.int .u64 0] 195);have Z1:Bk ((w.alloc (.cells #[.int .u64 0,.int .u64 0,.int .u64 0,.int .u64 0] 195)).alloc (.cells #[.int .u64 0,.int .u64 0,.int .u64 0,.int .u64 0] 195)) (w.heap.size+1) 195 #[.int .u64 0,.int .u64 0,.int .u64 0,.int .u64 0]:=by simpa using Bk.fresh (w.alloc (.cells #[.int .u64 0,.int .u64 0,.int .u64 0,.int .u64 0] 195)) 195 #[.int .u64 0,.int .u64 0,.int .u64 0,.int .u64 0]
 have hbel:=((aq w.heap.size w).alloc (ac _) (.cells #[.int .u64 0,.int .u64 0,.int .u64 0,.int .u64 0] 195)).alloc (by simp) (.cells #[.int .u64 0,.int .u64 0,.int .u64 0,.int .u64 0] 195);have HZ0:=aa Z0;have HZ1:=aa Z1;have HL:=aa hbel;clear Z0 Z1 hbel
 go_enter func177,ntmps177
 go_wp2_with fail
 refine(fV _ [0,17,128,131,135,143,145] _ _ (by decide) (by decide) (Rd.lit _ _ _ (by simp) (by simp) rfl)).mono ?_;rintro e w1 ⟨rfl,hb1⟩;have hbk1:=(HZ0.o.alloc _).below hb1 (by simp;omega);have hcs1:=(HZ1.o.alloc _).below hb1 (by simp);have hbel1:=(HL.o.alloc (by simp;omega) _).trans (hb1.mono (by simp;omega));clear hb1;obtain⟨C,hG⟩:∃C,C=codes 11:=⟨_,rfl⟩;rw[show wl [0,17,128,131,135,143,145]=C by rw[hG];simp[codes],fw C];have HG:=aa hG;clear hG
 obtain⟨⟨c0,c1,c2,c3⟩,f0,f1,f2,f3⟩:=hcs1.four;obtain⟨⟨d0,d1,d2,d3⟩,g0,g1,g2,g3⟩:=hbk1.four;have hbel2:=aa (cD (cD hbel1 (g:=w.heap.size+1) (by omega) (.int .u64 (C 0)) (.int .u64 (C 1)) (.int .u64 (C 2)) (.int .u64 (C 3))) (g:=w.heap.size) (by omega) (.int .u64 (C 0)) (.int .u64 (C 1)) (.int .u64 (C 2)) (.int .u64 (C 3)));clear hbel1 hbk1 hcs1;go_wp2;exact av (v:=.agg (bw C)) (by simp[results,Tryz.results177,go_sem,bw,d0,d1,d2,d3]) rfl ⟨by rw[HG.o],hbel2.out⟩
theorem Di(w:World):
  Calls prog 177 #[.int .i64 14] w fun e w'=>e= .returned (.agg (bw (codes 14)))/\Below w.heap.size w w':=by
 have Z0:=(Bk.fresh w 195 #[.int .u64 0,.int .u64 0,.int .u64 0,.int .u64 0]).alloc (.cells #[.int .u64 0,.int .u64 0,.int .u64 0,.int .u64 0] 195);have Z1:Bk ((w.alloc (.cells #[.int .u64 0,.int .u64 0,.int .u64 0,.int .u64 0] 195)).alloc (.cells #[.int .u64 0,.int .u64 0,.int .u64 0,.int .u64 0] 195)) (w.heap.size+1) 195 #[.int .u64 0,.int .u64 0,.int .u64 0,.int .u64 0]:=by simpa using Bk.fresh (w.alloc (.cells #[.int .u64 0,.int .u64 0,.int .u64 0,.int .u64 0] 195)) 195 #[.int .u64 0,.int .u64 0,.int .u64 0,.int .u64 0]
 have hbel:=((aq w.heap.size w).alloc (ac _) (.cells #[.int .u64 0,.int .u64 0,.int .u64 0,.int .u64 0] 195)).alloc (by simp) (.cells #[.int .u64 0,.int .u64 0,.int .u64 0,.int .u64 0] 195);have HZ0:=aa Z0;have HZ1:=aa Z1;have HL:=aa hbel;clear Z0 Z1 hbel
 go_enter func177,ntmps177
 go_wp2_with fail
 refine(fV _ [0,4,135,137,139,141,142,143,144] _ _ (by decide) (by decide) (Rd.lit _ _ _ (by simp) (by simp) rfl)).mono ?_;rintro e w1 ⟨rfl,hb1⟩;have hbk1:=(HZ0.o.alloc _).below hb1 (by simp;omega);have hcs1:=(HZ1.o.alloc _).below hb1 (by simp);have hbel1:=(HL.o.alloc (by simp;omega) _).trans (hb1.mono (by simp;omega));clear hb1;have Hb:=aa hbk1;have Hc:=aa hcs1;have Hl:=aa hbel1
 clear hbk1 hcs1 hbel1
 go_wp2_with fail
 refine(pg (wl [0,4,135,137,139,141,142,143,144]) 128 131 128 4 _ (rC _) (by omega) (by omega) (by omega) (by omega)).mono ?_;rintro e w2 ⟨rfl,hb1⟩;have hbk1:=Hb.o.below hb1 Hb.o.lt;have hcs1:=Hc.o.below hb1 Hc.o.lt;have hbel1:=Hl.o.trans (hb1.mono (by have:=Hb.o.lt;omega));clear hb1 Hb Hc Hl;have Hb:=aa hbk1;have Hc:=aa hcs1;have Hl:=aa hbel1
 clear hbk1 hcs1 hbel1
 go_wp2_with fail
 refine(pg (jr (wl [0,4,135,137,139,141,142,143,144]) 128 4) 147 162 147 16 _ (mQ (rC _) _ _) (by omega) (by omega) (by omega) (by omega)).mono ?_;rintro e w3 ⟨rfl,hb1⟩;have hbk1:=Hb.o.below hb1 Hb.o.lt;have hcs1:=Hc.o.below hb1 Hc.o.lt;have hbel1:=Hl.o.trans (hb1.mono (by have:=Hb.o.lt;omega));clear hb1 Hb Hc Hl;obtain⟨C,hG⟩:∃C,C=codes 14:=⟨_,rfl⟩;rw[show jr (jr (wl [0,4,135,137,139,141,142,143,144]) 128 4) 147 16=C by rw[hG];simp[codes],fw C];have HG:=aa hG;clear hG
 obtain⟨⟨c0,c1,c2,c3⟩,f0,f1,f2,f3⟩:=hcs1.four;obtain⟨⟨d0,d1,d2,d3⟩,g0,g1,g2,g3⟩:=hbk1.four;have hbel2:=aa (cD (cD hbel1 (g:=w.heap.size+1) (by omega) (.int .u64 (C 0)) (.int .u64 (C 1)) (.int .u64 (C 2)) (.int .u64 (C 3))) (g:=w.heap.size) (by omega) (.int .u64 (C 0)) (.int .u64 (C 1)) (.int .u64 (C 2)) (.int .u64 (C 3)));clear hbel1 hbk1 hcs1;go_wp2;exact av (v:=.agg (bw C)) (by simp[results,Tryz.results177,go_sem,bw,d0,d1,d2,d3]) rfl ⟨by rw[HG.o],hbel2.out⟩
theorem Dh(w:World):
  Calls prog 177 #[.int .i64 15] w fun e w'=>e= .returned (.agg (bw (codes 15)))/\Below w.heap.size w w':=by
 have Z0:=(Bk.fresh w 195 #[.int .u64 0,.int .u64 0,.int .u64 0,.int .u64 0]).alloc (.cells #[.int .u64 0,.int .u64 0,.int .u64 0,.int .u64 0] 195);have Z1:Bk ((w.alloc (.cells #[.int .u64 0,.int .u64 0,.int .u64 0,.int .u64 0] 195)).alloc (.cells #[.int .u64 0,.int .u64 0,.int .u64 0,.int .u64 0] 195)) (w.heap.size+1) 195 #[.int .u64 0,.int .u64 0,.int .u64 0,.int .u64 0]:=by simpa using Bk.fresh (w.alloc (.cells #[.int .u64 0,.int .u64 0,.int .u64 0,.int .u64 0] 195)) 195 #[.int .u64 0,.int .u64 0,.int .u64 0,.int .u64 0]
 have hbel:=((aq w.heap.size w).alloc (ac _) (.cells #[.int .u64 0,.int .u64 0,.int .u64 0,.int .u64 0] 195)).alloc (by simp) (.cells #[.int .u64 0,.int .u64 0,.int .u64 0,.int .u64 0] 195);have HZ0:=aa Z0;have HZ1:=aa Z1;have HL:=aa hbel;clear Z0 Z1 hbel
 go_enter func177,ntmps177
 go_wp2_with fail
 refine(fV _ [0,24,25] _ _ (by decide) (by decide) (Rd.lit _ _ _ (by simp) (by simp) rfl)).mono ?_;rintro e w1 ⟨rfl,hb1⟩;have hbk1:=(HZ0.o.alloc _).below hb1 (by simp;omega);have hcs1:=(HZ1.o.alloc _).below hb1 (by simp);have hbel1:=(HL.o.alloc (by simp;omega) _).trans (hb1.mono (by simp;omega));clear hb1;obtain⟨C,hG⟩:∃C,C=codes 15:=⟨_,rfl⟩;rw[show wl [0,24,25]=C by rw[hG];simp[codes],fw C];have HG:=aa hG;clear hG
 obtain⟨⟨c0,c1,c2,c3⟩,f0,f1,f2,f3⟩:=hcs1.four;obtain⟨⟨d0,d1,d2,d3⟩,g0,g1,g2,g3⟩:=hbk1.four;have hbel2:=aa (cD (cD hbel1 (g:=w.heap.size+1) (by omega) (.int .u64 (C 0)) (.int .u64 (C 1)) (.int .u64 (C 2)) (.int .u64 (C 3))) (g:=w.heap.size) (by omega) (.int .u64 (C 0)) (.int .u64 (C 1)) (.int .u64 (C 2)) (.int .u64 (C 3)));clear hbel1 hbk1 hcs1;go_wp2;exact av (v:=.agg (bw C)) (by simp[results,Tryz.results177,go_sem,bw,d0,d1,d2,d3]) rfl ⟨by rw[HG.o],hbel2.out⟩
theorem Ar(kind:Int)(w:World):
  Calls prog 177 #[.int .i64 kind] w fun e w'=>e= .returned (.agg (bw (codes kind)))/\Below w.heap.size w w':=by
 by_cases h2:kind=2
 ·subst h2;exact EW w
 by_cases h4:kind=4
 ·subst h4;exact EV w
 by_cases h5:kind=5
 ·subst h5;exact EU w
 by_cases h6:kind=6
 ·subst h6;exact ET w
 by_cases h7:kind=7
 ·subst h7;exact ES w
 by_cases h9:kind=9
 ·subst h9;exact ER w
 by_cases h11:kind=11
 ·subst h11;exact Dj w
 by_cases h14:kind=14
 ·subst h14;exact Di w
 by_cases h15:kind=15
 ·subst h15;exact Dh w
 go_enter func177,ntmps177;go_wp2;exact av (v:=.agg (bw oD)) (by simp[results,Tryz.results177,go_sem,bw,oD]) rfl ⟨by simp[codes, *],((aq w.heap.size w).alloc (ac _) _).alloc (by simp) _⟩
def tn(W:Nat->Nat)(c:Int):Bool:=decide (0<=c)&&decide (c<256)&&(W (c.toNat/ 64)).testBit (c.toNat% 64)
theorem qQ(x k:Nat)(hx:x<18446744073709551616):(bits BinOp.and IntKind.u64 (↑x/ 2^ k) 1==1)=x.testBit k:=by
 have e:((x:Int) / 2^ k)=((x/ 2^ k:Nat):Int):=by simp
 have h1:x/ 2^ k<18446744073709551616:=Nat.lt_of_le_of_lt (Nat.div_le_self _ _) hx;rw[e,show(1:Int)=((1:Nat):Int)from rfl,u64_and_nat _ _ h1 (by omega),Nat.and_one_is_mod,Nat.testBit_eq_decide_div_mod_eq];generalize x/ 2^ k% 2=z;rw[eG,aK,cH];omega
theorem EE(W:Nat->Nat)(c:Int)(w:World)(hW:Wok W):
  Calls prog 178 #[.agg (bw W),.int .i64 c] w fun e w'=>e= .returned (.bool (tn W c))/\Below w.heap.size w w':=by
 have HW:=aa hW;clear hW
 by_cases h0:0<=c
 ·by_cases h1:c<256
  ·obtain⟨n,rfl⟩:=JL h0;have hn:n<256:=by omega
   have hbk:=Bk.fresh w 195 (bw W);have hcell:(w.alloc (.cells (bw W) 195)).cell? ⟨w.heap.size,n/ 64,none⟩=some (.int .u64 (W (n/ 64))):=by
    rw[hbk.cell,tT _ _ hn]
   clear hbk;have hfin:tn W n=(bits BinOp.and IntKind.u64 (↑(W (n/ 64)) / 2^ (n% 64)) 1==1):=by
    rw[qQ _ _ (HW.o _)];simp[tn,h0,h1]
   have HF:=aa hfin;clear hfin
   go_enter func178,ntmps178;go_wp2;go_ret;exact⟨by rw[HF.o];rfl,(aq _ _).alloc (ac _) _⟩
  ·have hfin:tn W c=false:=by simp[tn,h1]
   have HF:=aa hfin;clear hfin
   go_enter func178,ntmps178;go_wp2;go_ret;exact⟨by rw[HF.o];rfl,(aq _ _).alloc (ac _) _⟩
 ·have hfin:tn W c=false:=by simp[tn,h0]
  have HF:=aa hfin;clear hfin
  go_enter func178,ntmps178;go_wp2;go_ret;exact⟨by rw[HF.o];rfl,(aq _ _).alloc (ac _) _⟩
def may(kind c:Int):Bool:=tn (codes kind) c
theorem Dg(kind:Int):Wok (codes kind):=by
 unfold codes
 repeat' split
 all_goals first| exact pJ| exact rC _| exact mQ (mQ (rC _) _ _) _ _
theorem m7(kind c:Int)(w:World):
  Calls prog 124 #[.int .i64 kind,.int .i64 c] w fun e w'=>e= .returned (.bool (may kind c))/\Below w.heap.size w w':=by
 go_enter func124,ntmps124
 go_wp2_with fail
 refine(Ar kind w).mono ?_;rintro e w1 ⟨rfl,hb1⟩
 go_wp2_with fail
 refine(EE (codes kind) c w1 (Dg kind)).mono ?_;rintro e w2 ⟨rfl,hb2⟩;go_wp2;go_ret;exact⟨rfl,hb1.trans (hb2.mono hb1.size)⟩
def ww(c:Int):Bool:=decide (0<=c)&&decide (c<=5)
theorem wv(c:Int)(w:World):
  Calls prog 367 #[.int .i64 c] w fun e w'=>e= .returned (.bool (ww c))/\w=w':=by
 go_enter func367,ntmps367;go_wp2
 all_goals
  go_ret;refine⟨?_,rfl⟩
  (try simp[ww])<;>omega
def tq(c:Int):Bool:=(c==0) || (c==1) || (c==2) || (c==128)
theorem Af(c:Int)(w:World):
  Calls prog 123 #[.int .i64 c] w fun e w'=>e= .returned (.bool (tq c))/\w=w':=by
 go_enter func123,ntmps123;go_wp2
 all_goals
  go_ret
  simp_all[tq]
def to5(c:Int):Int×Bool:=
 if c=0 then(0,true)else if c=1 then(132,true)else if c=2 then(133,true)else if c=3 then(136,true)
 else if c=4 then(134,true)else if c=5 then(135,true)else(0,false)
def old(c:Int):Option Nat:=(List.range 6).find? fun k=>(to5 k).1==c
theorem n6{kind c:Int}(h:may kind c=true):0<=c/\c<256:=by
 unfold may tn at h;simp only[eh,cH]at h;exact h.1
theorem Cw:(prog.info? 3).map (fun i=>(i.zero,i.size,i.bytes))=some (some (.int .i64 0),1,8):=by kernel_rfl
def MU(kind:Int)(k:Nat):List Nat:=(List.range k).filter fun c=>may kind (c:Int)
def Qk(kind:Int):List Nat:=MU kind 256
theorem NP(kind:Int)(k:Nat):(MU kind k).length<=k:=by
 have:=WJ (fun c:Nat=>may kind (c:Int)) (List.range k)
 simpa [MU]using this
theorem Ny(c:Int):tn oD c=false:=by simp[tn,oD]
theorem Nu{kind:Int}(h:¬(kind=2\/kind=4\/kind=5\/kind=6\/kind=7\/kind=9\/kind=11\/kind=14\/kind=15))(c:Int):may kind c=false:=by
 have:codes kind=oD:=by
  unfold codes;rw[ae (by omega),ae (by omega),ae (by omega),ae (by omega),ae (by omega),ae (by omega),ae (by omega)]
 unfold may;rw[this,Ny]
theorem PP(kind a:Int):((Qk kind).any fun c=>((c:Int)==a))=may kind a:=by
 rw[eG,List.any_eq_true]
 constructor
 ·rintro ⟨c,hc,he⟩;have:(c:Int)=a:=by simpa using he
  subst this;exact by simpa using (WV.1 hc).2
 ·intro h;have hr:=n6 h;refine⟨a.toNat,WV.2 ⟨by simp;omega,?_⟩,by simp;omega⟩;rw[show((a.toNat:Nat):Int)=a by omega];exact h
theorem KQ{l:List Nat}{k:Nat}(h:k<l.length)(a:Int):((l.take (k+1)).any fun c=>((c:Int)==a))=(((l.take k).any fun c=>((c:Int)==a)) || ((l[k]:Int)==a)):=by
 rw[fE h,List.any_append];simp
theorem Mm(a:Nat)(k:Nat):FJ (List.range' a (k+1))=FJ (List.range' a k)++[.int .i64 ((a:Int)+k)]:=by
 rw[List.range'_concat];simp[FJ]
theorem JH(v:Value)(n:Nat)(xs:List Value)(a b:Int)(na k:Nat)(base:Nat)(w:World)(hown:w.ownsRow base 3 1 v n xs)(hbase:base<=w.heap.size)(hn:n<=1000)(ha:a=na)(hk:b+1=a+k)(hb:b<256):
  Calls prog 366 #[v,.int .i64 a,.int .i64 b] w fun e w'=>∃v',e= .returned v'/\w'.ownsRow base 3 1 v' (n+k) (xs++FJ (List.range' na k))/\Below base w w':=by
 have HO:=aa hown;clear hown
 subst ha;have HK:=aa hk;clear hk
 go_enter func366,ntmps366;go_wp2
 go_loopw [0,1] (fun v i wr=>∃j:Nat,j<=k/\i= .int .i64 ((na:Int)+j)/\wr.ownsRow base 3 1 v (n+j) (xs++FJ (List.range' na j))/\Below base w wr) (fun _ i _=>(b+1- intOf i).toNat)
 case atStart=>exact⟨0,by omega,by simp,by simpa using HO.o,aq _ _⟩
 case round=>
  obtain⟨j,hj,rfl,hown,hbel⟩:=hrel;have HO1:=aa hown;clear hown
  have hz:=hbel.size
  by_cases hlt:j<k
  ·have h1:(na:Int)+j<=b:=by have:=HK.o;omega
   have HR:=aa (Mm na j)
   go_wp2_with (at_builtin;go_loud (refine kF _ rfl (.tmp 12) (.tmp 14) 26 rfl base 3 (.int .i64 0) 1 8 underlying26 Cw rfl (by decide) u0 _ _ rfl (HO1.o.alloc _) _ _ 1 1 [.int .i64 ((na:Int)+j)] rfl (Rd.lit _ _ _ rfl (ed _) rfl) (by intro u hu;simp at hu;subst hu;rfl) (by unfold maxLen;omega) (by omega) (by simp;omega) ?_);intro v' w3 hown3 hg3 hat3)
   have R:w3.ownsRow base 3 1 v' (n+(j+1)) (xs++FJ (List.range' na (j+1)))/\Below base w w3:=by
    refine⟨?_,kz (hbel.alloc (by omega) _) hg3 (by simp;omega) (fun g hg=>(cX HO1.o g hg).1)⟩;rw[HR.o,<-List.append_assoc];exact hown3
   clear hown3 hg3 hat3;go_wp2
   go_roundw
   case rel=>exact⟨j+1,by omega,by simp;omega,R.1,R.2⟩
   case measure=>have:=HK.o;simp[intOf];omega
  ·obtain rfl:j=k:=by omega
   have h1:b<(na:Int)+j:=by have:=HK.o;omega
   go_wp2;go_ret;exact⟨_,rfl,HO1.o,hbel⟩
def IA(kind:Int):List Nat:=
 if kind=2 then [0]++List.range' 128 11++[140,144,149,151]++List.range' 153 5++[159]
 else if kind=4\/kind=5 then [0,16,128,131,135,144,145,151,153]
 else if kind=6\/kind=7 then [0,146]
 else if kind=9 then [0,1,2,128,131,135,143,145,151,158,161,162]
 else if kind=11 then [0,17,128,131,135,143,145]
 else if kind=14 then [0,4]++List.range' 128 4++[135,137,139,141,142,143,144]++List.range' 147 16
 else if kind=15 then [0,24,25]
 else []
theorem KY(kind:Int):IA kind=Qk kind:=by
 by_cases hk:kind=2\/kind=4\/kind=5\/kind=6\/kind=7\/kind=9\/kind=11\/kind=14\/kind=15
 ·obtain rfl| rfl| rfl| rfl| rfl| rfl| rfl| rfl| rfl:=hk
  all_goals decide+kernel
 ·have h1:IA kind=[]:=by
   unfold IA;rw[ae (by omega),ae (by omega),ae (by omega),ae (by omega),ae (by omega),ae (by omega),ae (by omega)]
  rw[h1];unfold Qk MU;rw[eq_comm,List.filter_eq_nil_iff];intro c _;rw[Nu hk];simp
def Ho(kind:Int)(w:World)(e:Ending)(w':World):Prop:=
 ∃v,e= .returned v/\w'.ownsRow w.heap.size 3 1 v (IA kind).length (FJ (IA kind))/\Below w.heap.size w w'
theorem IR(w:World)(kind:Int)(l:List Nat)(h:IA kind=l)(cs:Array Value)(hcs:cs.toList=FJ l)(n:Nat)(hn:n=l.length)(hm:n<=1000):
  Ho kind w (.returned (.slice (some ⟨w.heap.size,0,none⟩) n n)) (w.alloc (.cells cs 3)):=by
 subst h hn;refine⟨_,rfl,?_,(aq _ _).alloc (ac _) _⟩;rw[<-hcs];exact World.ownsRow_lit w cs _ (ac _) (by unfold maxLen;omega) (by have:=congrArg List.length hcs;simpa [FJ]using this)
theorem Oc(w:World):Calls prog 322 #[.int .i64 4] w (Ho 4 w):=by
 go_enter func322,ntmps322;go_wp2;go_ret;exact IR w 4 [0,16,128,131,135,144,145,151,153] (by decide) _ rfl _ rfl (by decide)
theorem Ob(w:World):Calls prog 322 #[.int .i64 5] w (Ho 5 w):=by
 go_enter func322,ntmps322;go_wp2;go_ret;exact IR w 5 [0,16,128,131,135,144,145,151,153] (by decide) _ rfl _ rfl (by decide)
theorem Oa(w:World):Calls prog 322 #[.int .i64 6] w (Ho 6 w):=by
 go_enter func322,ntmps322;go_wp2;go_ret;exact IR w 6 [0,146] (by decide) _ rfl _ rfl (by decide)
theorem NZ(w:World):Calls prog 322 #[.int .i64 7] w (Ho 7 w):=by
 go_enter func322,ntmps322;go_wp2;go_ret;exact IR w 7 [0,146] (by decide) _ rfl _ rfl (by decide)
theorem NY(w:World):Calls prog 322 #[.int .i64 9] w (Ho 9 w):=by
 go_enter func322,ntmps322;go_wp2;go_ret;exact IR w 9 [0,1,2,128,131,135,143,145,151,158,161,162] (by decide) _ rfl _ rfl (by decide)
theorem Ni(w:World):Calls prog 322 #[.int .i64 11] w (Ho 11 w):=by
 go_enter func322,ntmps322;go_wp2;go_ret;exact IR w 11 [0,17,128,131,135,143,145] (by decide) _ rfl _ rfl (by decide)
theorem Ng(w:World):Calls prog 322 #[.int .i64 15] w (Ho 15 w):=by
 go_enter func322,ntmps322;go_wp2;go_ret;exact IR w 15 [0,24,25] (by decide) _ rfl _ rfl (by decide)
theorem Od(w:World):Calls prog 322 #[.int .i64 2] w (Ho 2 w):=by
 go_enter func322,ntmps322
 go_wp2_with fail
 refine(JH _ 1 (FJ [0]) 128 138 128 11 w.heap.size _ (World.ownsRow_lit w _ 1 (ac _) (by decide) rfl) (by simp) (by omega) rfl rfl (by omega)).mono ?_;rintro e w1 ⟨v1,rfl,hown1,hb1⟩;have hbel1:=((aq w.heap.size w).alloc (ac _) (.cells #[.int .i64 0] 3)).trans hb1;have hz1:=hbel1.size
 go_wp2_with (first| fail| (at_builtin;refine kF _ rfl (.tmp 10) (.tmp 11) 26 rfl w.heap.size 3 (.int .i64 0) 1 8 underlying26 Cw rfl (by decide) v1 _ _ rfl (hown1.alloc _) _ _ 4 4 (FJ [140,144,149,151]) rfl (Rd.lit _ _ _ rfl (ed _) rfl) (Kr _) (by unfold maxLen;omega) (by omega) (by simp;omega) ?_;intro v2 w2 hown2 hg2 hat2))
 have hbel2:=kz (hbel1.alloc (by omega) _) hg2 (by simp;omega) (fun g hg=>(cX hown1 g hg).1);have hz2:=hbel2.size;clear hg2 hat2 hown1 hb1;refine(JH v2 _ _ 153 157 153 5 w.heap.size _ hown2 (by omega) (by omega) rfl rfl (by omega)).mono ?_;rintro e w3 ⟨v3,rfl,hown3,hb3⟩;have hbel3:=hbel2.trans hb3;have hz3:=hbel3.size;clear hown2 hb3
 go_wp2_with (first| fail| (at_builtin;refine kF _ rfl (.tmp 14) (.tmp 15) 26 rfl w.heap.size 3 (.int .i64 0) 1 8 underlying26 Cw rfl (by decide) v3 _ _ rfl (hown3.alloc _) _ _ 1 1 (FJ [159]) rfl (Rd.lit _ _ _ rfl (ed _) rfl) (Kr _) (by unfold maxLen;omega) (by omega) (by simp;omega) ?_;intro v4 w4 hown4 hg4 hat4))
 have hbel4:=kz (hbel3.alloc (by omega) _) hg4 (by simp;omega) (fun g hg=>(cX hown3 g hg).1);clear hg4 hat4 hown3;go_wp2;go_ret;exact⟨_,rfl,hown4,hbel4⟩
theorem Nh(w:World):Calls prog 322 #[.int .i64 14] w (Ho 14 w):=by
 go_enter func322,ntmps322
 go_wp2_with fail
 refine(JH _ 2 (FJ [0,4]) 128 131 128 4 w.heap.size _ (World.ownsRow_lit w _ 2 (ac _) (by decide) rfl) (by simp) (by omega) rfl rfl (by omega)).mono ?_;rintro e w1 ⟨v1,rfl,hown1,hb1⟩;have hbel1:=((aq w.heap.size w).alloc (ac _) (.cells #[.int .i64 0,.int .i64 4] 3)).trans hb1;have hz1:=hbel1.size
 go_wp2_with (first| fail| (at_builtin;refine kF _ rfl (.tmp 35) (.tmp 36) 26 rfl w.heap.size 3 (.int .i64 0) 1 8 underlying26 Cw rfl (by decide) v1 _ _ rfl (hown1.alloc _) _ _ 7 7 (FJ [135,137,139,141,142,143,144]) rfl (Rd.lit _ _ _ rfl (ed _) rfl) (Kr _) (by unfold maxLen;omega) (by omega) (by simp;omega) ?_;intro v2 w2 hown2 hg2 hat2))
 have hbel2:=kz (hbel1.alloc (by omega) _) hg2 (by simp;omega) (fun g hg=>(cX hown1 g hg).1);have hz2:=hbel2.size;clear hg2 hat2 hown1 hb1;refine(JH v2 _ _ 147 162 147 16 w.heap.size _ hown2 (by omega) (by omega) rfl rfl (by omega)).mono ?_;rintro e w3 ⟨v3,rfl,hown3,hb3⟩;have hbel3:=hbel2.trans hb3;clear hown2 hb3;go_wp2;go_ret;exact⟨_,rfl,hown3,hbel3⟩
theorem Ml(kind:Int)(w:World):Calls prog 322 #[.int .i64 kind] w (Ho kind w):=by
 by_cases h2:kind=2
 ·subst h2;exact Od w
 by_cases h4:kind=4
 ·subst h4;exact Oc w
 by_cases h5:kind=5
 ·subst h5;exact Ob w
 by_cases h6:kind=6
 ·subst h6;exact Oa w
 by_cases h7:kind=7
 ·subst h7;exact NZ w
 by_cases h9:kind=9
 ·subst h9;exact NY w
 by_cases h11:kind=11
 ·subst h11;exact Ni w
 by_cases h14:kind=14
 ·subst h14;exact Nh w
 by_cases h15:kind=15
 ·subst h15;exact Ng w
 have HR:Hid (IA kind=[]):=by
  show _=_;unfold IA;rw[ae (by omega),ae (by omega),ae (by omega),ae (by omega),ae (by omega),ae (by omega),ae (by omega)]
 go_enter func322,ntmps322;go_wp2;go_ret;refine⟨_,rfl,?_,aq _ _⟩;rw[HR.o];exact dD _ _ _ _
theorem Ht(kind c:Int)(w:World):
  Calls prog 250 #[.int .i64 kind,.int .i64 c] w fun e w'=>e= .returned (.bool (may kind c))/\Below w.heap.size w w':=by
 have hmem:=PP kind c;rw[<-KY]at hmem;have HM:=aa hmem;clear hmem
 go_enter func250,ntmps250
 go_wp2_with fail
 refine(Ml _ _).mono ?_;rintro e w1 ⟨v,rfl,hown,hb1⟩;obtain⟨A,cp,rfl,hc,hrd⟩:=jK hown;have hn:(IA kind).length<=256:=by rw[KY];exact NP kind 256
 clear hown;have hs1:=hb1.size;generalize IA kind=l at*;go_wp2
 go_loopw [6] (fun i wr=>∃k:Nat,k<=l.length/\i= .int .i64 k/\(((l.take k).any fun x=>((x:Int)==c))=false)/\Below w1.heap.size w1 wr) (fun i _=>l.length- (intOf i).toNat)
 case atStart=>exact⟨0,by omega,rfl,rfl,aq _ _⟩
 case round=>
  obtain⟨k,hk,rfl,hno,hb⟩:=hrel;have HN:=aa hno;clear hno
  have hbel:Below w.heap.size w wr:=hb1.trans (hb.mono hs1)
  by_cases hlt:k<l.length
  ·obtain⟨bA,oA,u,rfl,hadb,hu,hcell⟩:=(hrd.below hb).at1 hlt;have hu':u= .int .i64 (l[k]:Nat):=by simpa [hlt]using hu.symm
   subst hu';have HS:=aa (KQ hlt c);have HG:Hid (l[k]∈l):=iY hlt;generalize l[k]=z at*;clear hu hrd;cases hz:((z:Int)==c)with
   | true=>
     have hfin:may kind c=true:=by
      rw[<-HM.o];exact List.any_eq_true.2 ⟨z,HG.o,hz⟩
     have HF:=aa hfin;clear hfin
     go_wp2;go_ret;exact⟨by rw[HF.o];rfl,hbel⟩
   | false=>
     have HZ:=aa hz;go_wp2
     go_roundw
     case rel=>exact⟨k+1,by omega,by go_num,by rw[HS.o,HN.o,HZ.o];rfl,hb⟩
     case measure=>simp[intOf];omega
  ·obtain rfl:k=l.length:=by omega
   have hfin:may kind c=false:=by rw[<-HM.o];have:=HN.o;rwa[GK]at this
   have HF:=aa hfin;clear hfin
   go_wp2;go_ret;exact⟨by rw[HF.o];rfl,hbel⟩
theorem KD(c:Int)(w:World):
  Calls prog 311 #[.int .i64 c] w fun e w'=>e= .returned (.bool (ww c))/\w=w':=by
 go_enter func311,ntmps311;go_wp2
 all_goals
  go_ret;refine⟨?_,rfl⟩
  (try simp[ww])<;>omega
theorem Lq(c:Int)(w:World):
  Calls prog 321 #[.int .i64 c] w fun e w'=>e= .returned (.bool (tq c))/\w=w':=by
 go_enter func321,ntmps321;go_wp2
 all_goals
  go_ret
  simp_all[tq]
end Go.Proofs.YtbdgkkmbnahgiaaGreatDoor
