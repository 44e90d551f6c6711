/- A part of what the laws stand on: MLis. -/
import Derived.Test.YtbdgkkmbnahgiaaGreatDoorMxG0MPrp
set_option maxRecDepth 10000
set_option maxHeartbeats 8000000
namespace Go.Proofs.YtbdgkkmbnahgiaaGreatDoor
open Go.RowKit Go.Proofs.Tryz
section
abbrev SrT:TypeId:=183
def Fm(gc:Nat)(p:Pr):Array Value:=#[.pointer (some ⟨gc,0,none⟩),.int .i64 p.id,.int .u32 p.n,.string p.text,.string p.value]
def Src(w:World)(gs gc:Nat)(t:ByteArray)(a:Nat)(e:Int)(p:Pr):Prop:=Bk w gs SrT (Fm gc p)/\Cur w gc t a e
def two(gs gc:Nat):Nat->Prop:=fun i=>i=gs\/i=gc
section
variable {w w':World} {gs gc a a':Nat} {t:ByteArray} {e e':Int} {p:Pr}
theorem Src.ne(h:Src w gs gc t a e p):gs≠gc:=by
 rintro rfl;have h1:=h.1;have h2:=h.2.1;unfold Bk at h1 h2;rw[h1]at h2;simp only[aX,fc]at h2;exact absurd h2.2.1 (by decide)
theorem Src.cells(h:Src w gs gc t a e p):(w.cell? ⟨gs,0,none⟩=some (.pointer (some ⟨gc,0,none⟩))/\w.cell? ⟨gs,1,none⟩=some (.int .i64 p.id)/\w.cell? ⟨gs,2,none⟩=some (.int .u32 p.n)/\w.cell? ⟨gs,3,none⟩=some (.string p.text)/\w.cell? ⟨gs,4,none⟩=some (.string p.value))/\
  w.frozen? ⟨gs,1,none⟩=false/\w.frozen? ⟨gs,2,none⟩=false/\w.frozen? ⟨gs,3,none⟩=false/\w.frozen? ⟨gs,4,none⟩=false:=
 ⟨⟨h.1.cell 0,h.1.cell 1,h.1.cell 2,h.1.cell 3,h.1.cell 4⟩,h.1.free 1,h.1.free 2,h.1.free 3,h.1.free 4⟩
theorem Src.below(h:Src w gs gc t a e p)(hb:Below w.heap.size w w'):Src w' gs gc t a e p:=⟨h.1.below hb h.1.lt,h.2.below hb⟩
theorem Src.cur(h:Src w gs gc t a e p)(hc:Cur w' gc t a' e')(hm:w.grownBy w' (some gc)):Src w' gs gc t a' e' p:=⟨(hm.block gs h.1.lt (fun x=>h.ne (by cases x;rfl))).trans h.1,hc⟩
theorem Src.set(h:Src w gs gc t a e p)(i:Nat)(u:Value)(q:Pr)(hq:(Fm gc p).setIfInBounds i u=Fm gc q):Src (w.setCell ⟨gs,i,none⟩ u) gs gc t a e q:=
 ⟨h.1.upd i u hq,h.2.1.other (Ne.symm h.ne) _,h.2.2⟩
end
def bp(t:ByteArray)(a:Nat)(e n:Int):ByteArray×Nat×Int:=
 if e=0 then(if jQ t a n=true then(t.extract a (a+n.toNat),a+n.toNat,0)else(⟨#[]⟩,a,5))else(⟨#[]⟩,a,e)
theorem mH(t:ByteArray)(a:Nat)(e n:Int)(h:e≠0\/jQ t a n=true):bp t a e n=aH t a e n:=by
 unfold bp aH;rcases h with h| h
 ·rw[ae h,ae h]
 ·rw[h];rfl
theorem lr(gs gc a:Nat)(t:ByteArray)(e n:Int)(p:Pr)(w:World)(h:Src w gs gc t a e p):
  Calls prog 298 #[.pointer (some ⟨gs,0,none⟩),.int .i64 n] w fun e' w'=>
   e'= .returned (.string (bp t a e n).1)/\Src w' gs gc t (bp t a e n).2.1 (bp t a e n).2.2 p/\w.grownBy w' (some gc):=by
 have H:=aa h;obtain⟨⟨c0,-⟩,-⟩:=h.cells;have hle:=h.2.2.1;have hts:=h.2.2.2;clear h
 by_cases he:e=0
 ·subst he
  by_cases hh:jQ t a n=true
  ·have HN:=aa (mH t a 0 n (.inr hh));have hn:0<=n/\n<=(t.size:Int) - a:=by simpa [jQ]using hh
   have d1:decide (n<0)=false:=ah (by omega);have d2:decide (((t.size- a:Nat):Int)<n)=false:=ah (by omega);have hn1:0<=n:=hn.1;have hn2:n<=((t.size- a:Nat):Int):=by omega
   clear hh hn;go_enter func298,ntmps298
   go_wp2_with fail
   refine(dG gc a t 0 _ H.o.2).mono ?_;rintro e1 w1 ⟨rfl,rfl⟩
   go_wp2_with fail
   refine(eI gc a t 0 _ H.o.2).mono ?_;rintro e1 w1 ⟨rfl,hb⟩;have HB:=aa hb;have H1:=aa (H.o.below hb);clear hb
   obtain⟨⟨c0',-⟩,-⟩:=H1.o.cells
   go_wp2_with fail
   refine(eo gc a t 0 n _ H1.o.2).mono ?_;rintro e1 w2 ⟨rfl,hc,hm⟩;have HF:=aa (And.intro (H1.o.cur hc hm) ((hJ HB.o (some gc)).trans hm));clear hc hm;go_wp2;go_ret;rw[HN.o];exact⟨rfl,HF.o⟩
  ·have HN:Hid (bp t a 0 n=(⟨#[]⟩,a,5)):=aa (by unfold bp;rw[if_pos rfl,ae hh]);have HT:Hid (aH t a 5 n=(⟨#[]⟩,a,5)):=aa (by unfold aH;rw[ae (by decide)]);have hn:¬(0<=n/\n<=(t.size:Int) - a):=by simpa [jQ]using hh
   clear hh
   by_cases hneg:n<0
   ·have d1:decide (n<0)=true:=au hneg;clear hn;go_enter func298,ntmps298
    go_wp2_with fail
    refine(dG gc a t 0 _ H.o.2).mono ?_;rintro e1 w1 ⟨rfl,rfl⟩
    go_wp2_with fail
    refine(cB gc a t 0 5 _ H.o.2).mono ?_;rintro e1 w1 ⟨rfl,hc,hm⟩;rw[if_pos rfl]at hc;have H1:=aa (H.o.cur hc hm);have HM:=aa hm;clear hc hm
    obtain⟨⟨c0',-⟩,-⟩:=H1.o.cells
    go_wp2_with fail
    refine(eo gc a t 5 n _ H1.o.2).mono ?_;rintro e1 w2 ⟨rfl,hc,hm⟩;have HF:=aa (And.intro (H1.o.cur hc hm) (HM.o.trans hm));clear hc hm;go_wp2;go_ret;rw[HN.o];have h2:=HF.o;rw[HT.o]at h2⊢;exact⟨rfl,h2⟩
   ·have d1:decide (n<0)=false:=ah hneg;have hn1:0<=n:=by omega
    have hn2:((t.size- a:Nat):Int)<n:=by omega
    clear hn hneg;go_enter func298,ntmps298
    go_wp2_with fail
    refine(dG gc a t 0 _ H.o.2).mono ?_;rintro e1 w1 ⟨rfl,rfl⟩
    go_wp2_with fail
    refine(eI gc a t 0 _ H.o.2).mono ?_;rintro e1 w0 ⟨rfl,hb⟩;have HB:=aa hb;have H0:=aa (H.o.below hb);clear hb
    obtain⟨⟨c0',-⟩,-⟩:=H0.o.cells
    go_wp2_with fail
    refine(cB gc a t 0 5 _ H0.o.2).mono ?_;rintro e1 w1 ⟨rfl,hc,hm⟩;rw[if_pos rfl]at hc;have H1:=aa (H0.o.cur hc hm);have HM:=aa hm;clear hc hm
    obtain⟨⟨c0'',-⟩,-⟩:=H1.o.cells
    go_wp2_with fail
    refine(eo gc a t 5 n _ H1.o.2).mono ?_;rintro e1 w2 ⟨rfl,hc,hm⟩;have HF:=aa (And.intro (H1.o.cur hc hm) (((hJ HB.o (some gc)).trans HM.o).trans hm));clear hc hm;go_wp2;go_ret;rw[HN.o];have h2:=HF.o;rw[HT.o]at h2⊢;exact⟨rfl,h2⟩
 ·have e0:(e==0)=false:=ar.2 he;have HN:=aa (mH t a e n (.inl he));clear he;go_enter func298,ntmps298
  go_wp2_with fail
  refine(dG gc a t e _ H.o.2).mono ?_;rintro e1 w1 ⟨rfl,rfl⟩
  go_wp2_with fail
  refine(eo gc a t e n _ H.o.2).mono ?_;rintro e1 w2 ⟨rfl,hc,hm⟩;have HF:=aa (And.intro (H.o.cur hc hm) hm);clear hc hm;go_wp2;go_ret;rw[HN.o];exact⟨rfl,HF.o⟩
theorem jM(t:ByteArray)(a:Nat)(e n:Int)(k:Nat)(hn:n<=k):(bp t a e n).1.size<=k:=by
 unfold bp;split
 ·split
  ·show(t.extract a (a+n.toNat)).size<=k;rw[aj];omega
  ·exact ag _
 ·exact ag _
theorem kx(l:List UInt8)(k:Nat)(h:l.length<=k)(hk:k<=4):es l<4294967296:=by
 have h1:=ka l;have h2:256^ l.length<=256^ 4:=df (by omega) (by omega);have h3:(256:Nat) ^ 4=4294967296:=by decide
 omega
def lO(gs gc:Nat)(t:ByteArray)(a:Nat)(e:Int)(p:Pr)(w:World)(e':Ending)(w':World):Prop:=e'= .returned (.tuple #[])/\Src w' gs gc t a e p/\Mods (two gs gc) w w'
theorem Ei(gs gc a:Nat)(t:ByteArray)(e:Int)(p:Pr)(w:World)(h:Src w gs gc t a e p):
  Calls prog 219 #[.pointer (some ⟨gs,0,none⟩)] w (lO gs gc t (bp t a e 1).2.1 (bp t a e 1).2.2 {p with n:=es (ls (bp t a e 1).1)} w):=by
 have H:=aa h;clear h
 have hz:=jM t a e 1 1 (by omega);go_enter func219,ntmps219
 go_wp2_with fail
 refine(lr gs gc a t e 1 p _ H.o).mono ?_;rintro e1 w1 ⟨rfl,hs,hm⟩
 go_wp2_with fail
 refine(jA _ _ (by omega)).mono ?_;rintro e1 w2 ⟨rfl,rfl⟩;have h4:=kx (ls (bp t a e 1).1) 1 (by rw[aN];exact hz) (by omega);have HS:=aa hs;have HM:=aa hm
 obtain⟨⟨-,-,c2,-⟩,-,f2,-⟩:=hs.cells;clear hs hm;generalize es (ls (bp t a e 1).1)=q at*;have hw:IntKind.u32.wrap (q:Int)=(q:Int):=by rw[oy];omega
 have HF:=aa (HS.o.set 2 (.int .u32 q) {p with n:=q} rfl);go_wp2
 go_end0
 exact⟨rfl,HF.o,(Mods.of_grown HM.o (.inr rfl)).set gs 2 (.inl (.inl rfl)) _⟩
theorem DG(gs gc a:Nat)(t:ByteArray)(e:Int)(p:Pr)(w:World)(h:Src w gs gc t a e p):
  Calls prog 220 #[.pointer (some ⟨gs,0,none⟩)] w (lO gs gc t (bp t a e 2).2.1 (bp t a e 2).2.2 {p with n:=es (ls (bp t a e 2).1)} w):=by
 have H:=aa h;clear h
 have hz:=jM t a e 2 2 (by omega);go_enter func220,ntmps220
 go_wp2_with fail
 refine(lr gs gc a t e 2 p _ H.o).mono ?_;rintro e1 w1 ⟨rfl,hs,hm⟩
 go_wp2_with fail
 refine(jA _ _ (by omega)).mono ?_;rintro e1 w2 ⟨rfl,rfl⟩;have h4:=kx (ls (bp t a e 2).1) 2 (by rw[aN];exact hz) (by omega);have HS:=aa hs;have HM:=aa hm
 obtain⟨⟨-,-,c2,-⟩,-,f2,-⟩:=hs.cells;clear hs hm;generalize es (ls (bp t a e 2).1)=q at*;have hw:IntKind.u32.wrap (q:Int)=(q:Int):=by rw[oy];omega
 have HF:=aa (HS.o.set 2 (.int .u32 q) {p with n:=q} rfl);go_wp2
 go_end0
 exact⟨rfl,HF.o,(Mods.of_grown HM.o (.inr rfl)).set gs 2 (.inl (.inl rfl)) _⟩
theorem CE(gs gc a:Nat)(t:ByteArray)(e:Int)(p:Pr)(w:World)(h:Src w gs gc t a e p):
  Calls prog 221 #[.pointer (some ⟨gs,0,none⟩)] w (lO gs gc t (bp t a e 4).2.1 (bp t a e 4).2.2 {p with n:=es (ls (bp t a e 4).1)} w):=by
 have H:=aa h;clear h
 have hz:=jM t a e 4 4 (by omega);go_enter func221,ntmps221
 go_wp2_with fail
 refine(lr gs gc a t e 4 p _ H.o).mono ?_;rintro e1 w1 ⟨rfl,hs,hm⟩
 go_wp2_with fail
 refine(jA _ _ (by omega)).mono ?_;rintro e1 w2 ⟨rfl,rfl⟩;have h4:=kx (ls (bp t a e 4).1) 4 (by rw[aN];exact hz) (by omega);have HS:=aa hs;have HM:=aa hm
 obtain⟨⟨-,-,c2,-⟩,-,f2,-⟩:=hs.cells;clear hs hm;generalize es (ls (bp t a e 4).1)=q at*;have hw:IntKind.u32.wrap (q:Int)=(q:Int):=by rw[oy];omega
 have HF:=aa (HS.o.set 2 (.int .u32 q) {p with n:=q} rfl);go_wp2
 go_end0
 exact⟨rfl,HF.o,(Mods.of_grown HM.o (.inr rfl)).set gs 2 (.inl (.inl rfl)) _⟩
end
theorem Fd:∀(l:List UInt8) (n k:Nat),k<=3->n<2^ (7*k)->(rv l n k).1<268435456
 | [],n,k,_,_=>by simp[rv]
 | b :: l,n,k,hk,hn=>by
   have h1:=uN b hn;rw[rv];split
   ·split
    ·simp
    ·exact Fd l _ _ (by omega) h1
   ·split
    ·simp
    ·have:2^ (7*(k+1))<=2^ 28:=df (by omega) (by omega);have h28:(2:Nat) ^ 28=268435456:=by decide
     simp only;omega
theorem pT(l:List UInt8):(bm l).1<268435456:=Fd l 0 0 (by omega) (by simp)
theorem lk(t:ByteArray)(a:Nat):(t.extract a t.size).size=t.size- a:=by rw[aj];omega
theorem ju(t:ByteArray)(a:Nat):ls (t.extract a t.size)=(ls t).drop a:=by
 unfold ls;rw[Lib.extract_data,bt];simp
def mz(t:ByteArray)(a:Nat):Nat×Nat×Int:=
 if(bm ((ls t).drop a)).2.2=0 then((bm ((ls t).drop a)).1,a+(bm ((ls t).drop a)).2.1,0)else((bm ((ls t).drop a)).1,a,5)
theorem AM(gs gc a:Nat)(t:ByteArray)(p:Pr)(w:World)(h:Src w gs gc t a 0 p):
  Calls prog 222 #[.pointer (some ⟨gs,0,none⟩)] w (lO gs gc t (mz t a).2.1 (mz t a).2.2 {p with n:=(mz t a).1} w):=by
 have H:=aa h;obtain⟨⟨c0,-⟩,-⟩:=h.cells;have hle:=h.2.2.1;have hts:=h.2.2.2;clear h;have HR:=aa (ju t a);have hlt:=pT ((ls t).drop a);have hsz:=jH ((ls t).drop a);rw[bU,aN]at hsz;have HD:Hid (mz t a=if(bm ((ls t).drop a)).2.2=0 then((bm ((ls t).drop a)).1,a+(bm ((ls t).drop a)).2.1,0)else((bm ((ls t).drop a)).1,a,5)):=aa rfl;have HVV:=aa (nO (t.extract a t.size));rw[HR.o]at HVV;generalize bm ((ls t).drop a)=R at*;obtain⟨m,k,x⟩:=R;simp only at hlt hsz HD HVV;have hw:IntKind.u32.wrap (m:Int)=(m:Int):=by rw[oy];omega
 have hrl:=lk t a;have HRL:=aa hrl;clear hrl
 by_cases hx:x=0
 ·have HV:Hid (mz t a=(m,a+k,0)):=aa (by rw[HD.o,if_pos hx]);have HT:Hid (aH t a 0 k=(t.extract a (a+k),a+k,0)):=aa (by
   unfold aH;rw[if_pos rfl,if_pos (by simp[jQ];omega)];simp)
  subst hx;clear HD;go_enter func222,ntmps222
  go_wp2_with fail
  refine(jG gc a t 0 _ H.o.2).mono ?_;rintro e1 w1 ⟨rfl,hb⟩;have H1:=aa (H.o.below hb);have HB:=aa hb;clear hb
  go_wp2_with fail
  refine(HVV.o _ (by have:=HRL.o;omega)).mono ?_;rintro e1 w2 ⟨rfl,hb⟩;have H2:=aa (H1.o.below hb);have HB2:=aa (HB.o.trans (hb.mono HB.o.size));clear hb
  obtain⟨⟨c0',-,c2,-⟩,-,f2,-⟩:=H2.o.cells;have H3:=aa (H2.o.set 2 (.int .u32 m) {p with n:=m} rfl)
  go_wp2_with fail
  refine(eo gc a t 0 k _ H3.o.2).mono ?_;rintro e1 w3 ⟨rfl,hc,hm⟩;have HF:=aa (And.intro (H3.o.cur hc hm) (((Mods.of_below (S:=two gs gc) HB2.o).set gs 2 (.inl (.inl rfl)) _).trans (Mods.of_grown hm (.inr rfl))));clear hc hm;go_wp2
  go_end0
  refine⟨rfl,?_,HF.o.2⟩;have h2:=HF.o.1;rw[HT.o]at h2;rw[HV.o];exact h2
 ·have e0:(x !=0)=true:=aA.2 hx;have HV:Hid (mz t a=(m,a,5)):=aa (by rw[HD.o,ae hx]);have HT:Hid (aH t a 5 k=(⟨#[]⟩,a,5)):=aa (by unfold aH;rw[ae (by decide)]);clear hx HD;go_enter func222,ntmps222
  go_wp2_with fail
  refine(jG gc a t 0 _ H.o.2).mono ?_;rintro e1 w1 ⟨rfl,hb⟩;have H1:=aa (H.o.below hb);have HB:=aa hb;clear hb
  go_wp2_with fail
  refine(HVV.o _ (by have:=HRL.o;omega)).mono ?_;rintro e1 w2 ⟨rfl,hb⟩;have H2:=aa (H1.o.below hb);have HB2:=aa (HB.o.trans (hb.mono HB.o.size));clear hb
  obtain⟨⟨c0',-⟩,-⟩:=H2.o.cells
  go_wp2_with fail
  refine(cB gc a t 0 5 _ H2.o.2).mono ?_;rintro e1 w3 ⟨rfl,hc,hm⟩;rw[if_pos rfl]at hc;have H3:=aa (H2.o.cur hc hm);have HM:=aa ((Mods.of_below (S:=two gs gc) HB2.o).trans (Mods.of_grown hm (.inr rfl)));clear hc hm
  obtain⟨⟨c0'',-,c2,-⟩,-,f2,-⟩:=H3.o.cells;have H4:=aa (H3.o.set 2 (.int .u32 m) {p with n:=m} rfl)
  go_wp2_with fail
  refine(eo gc a t 5 k _ H4.o.2).mono ?_;rintro e1 w4 ⟨rfl,hc,hm⟩;have HF:=aa (And.intro (H4.o.cur hc hm) ((HM.o.set gs 2 (.inl (.inl rfl)) _).trans (Mods.of_grown hm (.inr rfl))));clear hc hm;go_wp2
  go_end0
  refine⟨rfl,?_,HF.o.2⟩;have h2:=HF.o.1;rw[HT.o]at h2;rw[HV.o];exact h2
def dH(t:ByteArray)(a:Nat)(e:Int):ByteArray×Nat×Int:=bp t (bp t a e 2).2.1 (bp t a e 2).2.2 (es (ls (bp t a e 2).1))
theorem vD(gs gc a:Nat)(t:ByteArray)(e:Int)(p:Pr)(w:World)(h:Src w gs gc t a e p):
  Calls prog 300 #[.pointer (some ⟨gs,0,none⟩)] w fun e' w'=>
   e'= .returned (.string (dH t a e).1)/\Src w' gs gc t (dH t a e).2.1 (dH t a e).2.2 p/\w.grownBy w' (some gc):=by
 have H:=aa h;clear h
 have hz:=jM t a e 2 2 (by omega);have HD:Hid (dH t a e=bp t (bp t a e 2).2.1 (bp t a e 2).2.2 (es (ls (bp t a e 2).1))):=aa rfl;go_enter func300,ntmps300
 go_wp2_with fail
 refine(lr gs gc a t e 2 p _ H.o).mono ?_;rintro e1 w1 ⟨rfl,hs,hm⟩
 go_wp2_with fail
 refine(jA _ _ (by omega)).mono ?_;rintro e1 w2 ⟨rfl,rfl⟩;have h4:=kx (ls (bp t a e 2).1) 2 (by rw[aN];exact hz) (by omega);have HS:=aa hs;have HM:=aa hm
 clear hs hm;generalize es (ls (bp t a e 2).1)=q at*;generalize (bp t a e 2).2.1=a1 at*;generalize (bp t a e 2).2.2=e2 at*;have hw:IntKind.i64.wrap (q:Int)=(q:Int):=by rw[aQ];omega
 go_wp2_with fail
 refine(lr gs gc a1 t e2 q p _ HS.o).mono ?_;rintro e1 w3 ⟨rfl,hs,hm⟩;rw[<-HD.o]at hs⊢;have HF:=aa (And.intro hs (HM.o.trans hm));clear hs hm;go_wp2;go_ret;exact⟨rfl,HF.o⟩
theorem uU(t:ByteArray)(a:Nat)(e n:Int)(h:t.size<=4611686018427387904):(bp t a e n).1.size<=4611686018427387904:=by
 unfold bp;split
 ·split
  ·show(t.extract a (a+n.toNat)).size<=_;rw[aj];omega
  ·exact ag _
 ·exact ag _
def dd(t:ByteArray)(a:Nat)(e:Int):ByteArray×Nat×Int:=
 ((dH t a e).1,(dH t a e).2.1,if(dH t a e).2.2=0/\bN (dH t a e).1=false then 6 else(dH t a e).2.2)
theorem la(gs gc a:Nat)(t:ByteArray)(e:Int)(p:Pr)(w:World)(h:Src w gs gc t a e p):
  Calls prog 299 #[.pointer (some ⟨gs,0,none⟩)] w fun e' w'=>
   e'= .returned (.string (dd t a e).1)/\Src w' gs gc t (dd t a e).2.1 (dd t a e).2.2 p/\w.grownBy w' (some gc):=by
 have H:=aa h;have hd:(dH t a e).1.size<=4611686018427387904:=uU _ _ _ _ h.2.2.2;clear h;have HD:Hid (dd t a e=((dH t a e).1,(dH t a e).2.1,if(dH t a e).2.2=0/\bN (dH t a e).1=false then 6 else(dH t a e).2.2)):=aa rfl;go_enter func299,ntmps299
 go_wp2_with fail
 refine(vD gs gc a t e p _ H.o).mono ?_;rintro e1 w1 ⟨rfl,hs,hm⟩;have HS:=aa hs;have HM:=aa hm;clear hs hm
 generalize dH t a e=D at*;obtain⟨d,a1,e2⟩:=D;simp only at hd HD HS
 go_wp2_with fail
 refine(fk d _ hd).mono ?_;rintro e1 w2 ⟨rfl,hb⟩;have H2:=aa (HS.o.below hb);have HM2:=aa (HM.o.trans (hJ hb (some gc)));clear hb
 cases hv:bN d
 ·have HV:=aa hv;clear hv
  obtain⟨⟨c0,-⟩,-⟩:=H2.o.cells
  go_wp2_with fail
  refine(cB gc a1 t e2 6 _ H2.o.2).mono ?_;rintro e1 w3 ⟨rfl,hc,hm⟩;have HF:=aa (And.intro (H2.o.cur hc hm) (HM2.o.trans hm));clear hc hm;go_wp2;go_ret;rw[HD.o];refine⟨rfl,?_,HF.o.2⟩;have h2:=HF.o.1;rw[HV.o]
  simpa using h2
 ·have HV:=aa hv;clear hv
  go_wp2;go_ret;rw[HD.o];refine⟨rfl,?_,HM2.o⟩;have h2:=H2.o;rw[HV.o]
  simpa using h2
theorem AV(gs gc a:Nat)(t:ByteArray)(e:Int)(p:Pr)(w:World)(h:Src w gs gc t a e p):
  Calls prog 223 #[.pointer (some ⟨gs,0,none⟩)] w (lO gs gc t (dd t a e).2.1 (dd t a e).2.2 {p with text:=(dd t a e).1} w):=by
 have H:=aa h;clear h
 go_enter func223,ntmps223
 go_wp2_with fail
 refine(la gs gc a t e p _ H.o).mono ?_;rintro e1 w1 ⟨rfl,hs,hm⟩;have HS:=aa hs;have HM:=aa hm
 obtain⟨⟨-,-,-,c3,-⟩,-,-,f3,-⟩:=hs.cells;clear hs hm;generalize dd t a e=D at*;obtain⟨d,a1,e2⟩:=D;have HF:=aa (HS.o.set 3 (.string d) {p with text:=d} rfl);go_wp2
 go_end0
 exact⟨rfl,HF.o,(Mods.of_grown HM.o (.inr rfl)).set gs 3 (.inl (.inl rfl)) _⟩
theorem xB(gs gc a:Nat)(t:ByteArray)(e:Int)(p:Pr)(w:World)(h:Src w gs gc t a e p):
  Calls prog 224 #[.pointer (some ⟨gs,0,none⟩)] w (lO gs gc t (dH t a e).2.1 (dH t a e).2.2 {p with text:=(dH t a e).1} w):=by
 have H:=aa h;clear h
 go_enter func224,ntmps224
 go_wp2_with fail
 refine(vD gs gc a t e p _ H.o).mono ?_;rintro e1 w1 ⟨rfl,hs,hm⟩;have HS:=aa hs;have HM:=aa hm
 obtain⟨⟨-,-,-,c3,-⟩,-,-,f3,-⟩:=hs.cells;clear hs hm;generalize dH t a e=D at*;obtain⟨d,a1,e2⟩:=D;have HF:=aa (HS.o.set 3 (.string d) {p with text:=d} rfl);go_wp2
 go_end0
 exact⟨rfl,HF.o,(Mods.of_grown HM.o (.inr rfl)).set gs 3 (.inl (.inl rfl)) _⟩
def jJ(t:ByteArray)(a:Nat)(e:Int):(ByteArray×ByteArray)×Nat×Int:=
 (((dd t a e).1,(dd t (dd t a e).2.1 (dd t a e).2.2).1),(dd t (dd t a e).2.1 (dd t a e).2.2).2.1,(dd t (dd t a e).2.1 (dd t a e).2.2).2.2)
theorem BP(gs gc a:Nat)(t:ByteArray)(e:Int)(p:Pr)(w:World)(h:Src w gs gc t a e p):
  Calls prog 225 #[.pointer (some ⟨gs,0,none⟩)] w (lO gs gc t (jJ t a e).2.1 (jJ t a e).2.2 {p with text:=(jJ t a e).1.1,value:=(jJ t a e).1.2} w):=by
 have H:=aa h;clear h
 have HP:Hid (jJ t a e=(((dd t a e).1,(dd t (dd t a e).2.1 (dd t a e).2.2).1),(dd t (dd t a e).2.1 (dd t a e).2.2).2.1,(dd t (dd t a e).2.1 (dd t a e).2.2).2.2)):=aa rfl;go_enter func225,ntmps225
 go_wp2_with fail
 refine(la gs gc a t e p _ H.o).mono ?_;rintro e1 w1 ⟨rfl,hs,hm⟩;have HS:=aa hs;have HM:=aa hm
 obtain⟨⟨-,-,-,c3,-⟩,-,-,f3,-⟩:=hs.cells;clear hs hm;generalize dd t a e=D at*;obtain⟨d,a1,e2⟩:=D;simp only at HP HS;have H2:=aa (HS.o.set 3 (.string d) {p with text:=d} rfl)
 go_wp2_with fail
 refine(la gs gc a1 t e2 _ _ H2.o).mono ?_;rintro e1 w2 ⟨rfl,hs,hm⟩;have HS2:=aa hs;have HM2:=aa ((((Mods.of_grown (S:=two gs gc) HM.o (.inr rfl)).set gs 3 (.inl (.inl rfl)) _)).trans (Mods.of_grown hm (.inr rfl)));obtain⟨⟨-,-,-,-,c4⟩,-,-,-,f4⟩:=hs.cells;clear hs hm;generalize dd t a1 e2=D at*;obtain⟨d2,a2,e3⟩:=D;simp only at HP HS2;have HF:=aa (HS2.o.set 4 (.string d2) {p with text:=d,value:=d2} rfl);go_wp2
 go_end0
 rw[HP.o];exact⟨rfl,HF.o,HM2.o.set gs 4 (.inl (.inl rfl)) _⟩
def rdF(sh:Nat):FuncId:=
 if sh=1 then 219 else if sh=2 then 220 else if sh=3 then 221 else if sh=4 then 222
 else if sh=5 then 223 else if sh=6 then 224 else 225
def fnV(f:FuncId):Value:=.func (.func f) #[] #[]
def Bw:List (Int×Value):=[(1,fnV 219),(2,fnV 220),(3,fnV 221),(4,fnV 222),(5,fnV 223),(6,fnV 224),(7,fnV 225)]
theorem Cq(sh:Nat)(h1:1<=sh)(h7:sh<=7):ia Bw sh=some (fnV (rdF sh)):=by
 obtain rfl| rfl| rfl| rfl| rfl| rfl| rfl:sh=1\/sh=2\/sh=3\/sh=4\/sh=5\/sh=6\/sh=7:=by omega
 all_goals rfl
theorem up(w:World):Calls prog 165 #[] w fun e w'=>e= .returned (.map (some w.heap.size))/\fQ .i64 w' w.heap.size Bw/\Below w.heap.size w w':=by
 have hmm:=@run_makeMap prog;have HT:=aa (fQ.made w .i64);have HB:=aa ((aq w.heap.size w).alloc (ac _) (.map #[] 0));go_enter func165,ntmps165
 go_wp2_with (refine lc _ rfl _ _ _ 180 rfl 3 184 (by kernel_rfl) (by kernel_rfl) w.heap.size _ rfl HT.o _ _ rfl rfl rfl ?_;intro w1 hT hg;have hb:=HB.o.grown hg (HB.o.size) (fun k hk=>by cases hk;exact ac _);clear HT HB hg;have HT:=aa hT;have HB:=aa hb;clear hT hb)
 exact av (v:=.map (some w.heap.size)) (by simp[results,Tryz.results165,go_sem]) rfl ⟨rfl,HT.o,HB.o⟩
theorem dv{P:Program}{f:FuncId}{fn:Func}{c:Code}(hf:P.funcs[f]? =some fn)(hname:(fn.name== "runtime.NumGoroutine")=false)(hb:fn.body=some c)(args:Array Value)(w:World):
  (callFunc f args).run P w= .ok (.enter f args) w:=by
 have h1:fn.name≠ "runtime.NumGoroutine" :=by simpa using hname
 simp[callFunc,hf,h1,hb]
theorem CV(sh:Nat)(h1:1<=sh)(h7:sh<=7)(args:Array Value)(w:World):(callFunc (rdF sh) args).run prog w= .ok (.enter (rdF sh) args) w:=by
 obtain rfl| rfl| rfl| rfl| rfl| rfl| rfl:sh=1\/sh=2\/sh=3\/sh=4\/sh=5\/sh=6\/sh=7:=by omega
 ·exact dv func219 (by kernel_rfl) rfl args w
 ·exact dv func220 (by kernel_rfl) rfl args w
 ·exact dv func221 (by kernel_rfl) rfl args w
 ·exact dv func222 (by kernel_rfl) rfl args w
 ·exact dv func223 (by kernel_rfl) rfl args w
 ·exact dv func224 (by kernel_rfl) rfl args w
 ·exact dv func225 (by kernel_rfl) rfl args w
structure VRead where
 n:Nat
 text:ByteArray
 value:ByteArray
 at_:Nat
 err:Int
def dW(sh:Nat)(t:ByteArray)(a:Nat):VRead:=
 if sh=1 then⟨es (ls (bp t a 0 1).1),⟨#[]⟩,⟨#[]⟩,(bp t a 0 1).2.1,(bp t a 0 1).2.2⟩
 else if sh=2 then⟨es (ls (bp t a 0 2).1),⟨#[]⟩,⟨#[]⟩,(bp t a 0 2).2.1,(bp t a 0 2).2.2⟩
 else if sh=3 then⟨es (ls (bp t a 0 4).1),⟨#[]⟩,⟨#[]⟩,(bp t a 0 4).2.1,(bp t a 0 4).2.2⟩
 else if sh=4 then⟨(mz t a).1,⟨#[]⟩,⟨#[]⟩,(mz t a).2.1,(mz t a).2.2⟩
 else if sh=5 then⟨0,(dd t a 0).1,⟨#[]⟩,(dd t a 0).2.1,(dd t a 0).2.2⟩
 else if sh=6 then⟨0,(dH t a 0).1,⟨#[]⟩,(dH t a 0).2.1,(dH t a 0).2.2⟩
 else⟨0,(jJ t a 0).1.1,(jJ t a 0).1.2,(jJ t a 0).2.1,(jJ t a 0).2.2⟩
theorem DF(sh:Nat)(h1:1<=sh)(h7:sh<=7)(gs gc a:Nat)(t:ByteArray)(id:Int)(w:World)(h:Src w gs gc t a 0 ⟨id,0,⟨#[]⟩,⟨#[]⟩⟩):
  Calls prog (rdF sh) #[.pointer (some ⟨gs,0,none⟩)] w (lO gs gc t (dW sh t a).at_ (dW sh t a).err ⟨id,(dW sh t a).n,(dW sh t a).text,(dW sh t a).value⟩ w):=by
 obtain rfl| rfl| rfl| rfl| rfl| rfl| rfl:sh=1\/sh=2\/sh=3\/sh=4\/sh=5\/sh=6\/sh=7:=by omega
 ·exact Ei gs gc a t 0 _ w h
 ·exact DG gs gc a t 0 _ w h
 ·exact CE gs gc a t 0 _ w h
 ·exact AM gs gc a t _ w h
 ·exact AV gs gc a t 0 _ w h
 ·exact xB gs gc a t 0 _ w h
 ·exact BP gs gc a t 0 _ w h
section
def fa(t:ByteArray)(a:Nat):Nat:=((ls t).getD a 0).toNat
def iy(kind:Int)(t:ByteArray):Nat->Nat->(Nat->Nat)->List Pr->List Pr×Int
 | 0,_,_,_=>([],9)
 | m+1,a,f,out=>
   if t.size<=a then(if jp f=true then([],9)else(out,0))
   else if ng (cr (fa t a)) kind=false then([],9)
   else if(dW (cr (fa t a)).shape t (a+1)).err≠0 then([],(dW (cr (fa t a)).shape t (a+1)).err)
   else if de (cr (fa t a)) kind ⟨fa t a,(dW (cr (fa t a)).shape t (a+1)).n,(dW (cr (fa t a)).shape t (a+1)).text,(dW (cr (fa t a)).shape t (a+1)).value⟩≠0 then
    ([],de (cr (fa t a)) kind ⟨fa t a,(dW (cr (fa t a)).shape t (a+1)).n,(dW (cr (fa t a)).shape t (a+1)).text,(dW (cr (fa t a)).shape t (a+1)).value⟩)
   else if iC f kind (fa t a)=true then([],9)
   else if out.length=1000 then([],4)
   else iy kind t m (dW (cr (fa t a)).shape t (a+1)).at_ (upd f (fa t a) (f (fa t a)+1)) (out++[⟨fa t a,(dW (cr (fa t a)).shape t (a+1)).n,(dW (cr (fa t a)).shape t (a+1)).text,(dW (cr (fa t a)).shape t (a+1)).value⟩])
def fq(kind:Int)(t:ByteArray):List Pr×Int:=iy kind t (t.size+1) 0 (fun _=>0) []
theorem lu{t:ByteArray}{a:Nat}(h:a<=t.size)(e n:Int):a<=(bp t a e n).2.1/\(bp t a e n).2.1<=t.size:=by
 unfold bp;split
 ·split
  ·rename_i h1;simp only[jQ,eh,cH]at h1;simp only;omega
  ·exact⟨ac _,h⟩
 ·exact⟨ac _,h⟩
theorem lH{t:ByteArray}{a:Nat}(h:a<=t.size)(e:Int):a<=(dH t a e).2.1/\(dH t a e).2.1<=t.size:=by
 have h1:=lu h e 2;have h2:=lu h1.2 (bp t a e 2).2.2 (es (ls (bp t a e 2).1));unfold dH;omega
theorem zO(t:ByteArray)(a:Nat)(e n:Int):(bp t a e n).1.size<=t.size:=by
 unfold bp;split
 ·split
  ·show(t.extract a (a+n.toNat)).size<=_;rw[aj];omega
  ·exact ag _
 ·exact ag _
theorem xO{t:ByteArray}{a:Nat}(h:a<=t.size)(sh:Nat):a<=(dW sh t a).at_/\(dW sh t a).at_<=t.size:=by
 unfold dW;split
 ·exact lu h _ _
 ·split
  ·exact lu h _ _
  ·split
   ·exact lu h _ _
   ·split
    ·have:=jH ((ls t).drop a);rw[bU,aN]at this;unfold mz;split
     ·simp only;omega
     ·exact⟨ac _,h⟩
    ·split
     ·exact lH h _
     ·split
      ·exact lH h _
      ·have h1:=lH h 0;have h2:=lH h1.2 (dd t a 0).2.2;unfold jJ dd at*;simp only at*;omega
theorem xN{t:ByteArray}{a:Nat}(ht:t.size<=140737488351232)(sh:Nat):(dW sh t a).n<4294967296/\(dW sh t a).text.size<=140737488351232/\(dW sh t a).value.size<=140737488351232:=by
 have hn:∀k:Nat,k<=4->es (ls (bp t a 0 k).1)<4294967296:=fun k hk=>kx _ k (by rw[aN];exact jM t a 0 k k (by omega)) hk;have hd:∀(b:Nat) (e:Int),(dH t b e).1.size<=140737488351232:=fun b e=>by
  unfold dH;exact aC (zO _ _ _ _) ht
 unfold dW;split
 ·exact⟨hn 1 (by omega),by simp[ByteArray.size],by simp[ByteArray.size]⟩
 ·split
  ·exact⟨hn 2 (by omega),by simp[ByteArray.size],by simp[ByteArray.size]⟩
  ·split
   ·exact⟨hn 4 (by omega),by simp[ByteArray.size],by simp[ByteArray.size]⟩
   ·split
    ·refine⟨?_,by simp[ByteArray.size],by simp[ByteArray.size]⟩;have:=pT ((ls t).drop a);unfold mz;split<;>(simp only;omega)
    ·split
     ·exact⟨by simp,hd _ _,by simp[ByteArray.size]⟩
     ·split
      ·exact⟨by simp,hd _ _,by simp[ByteArray.size]⟩
      ·exact⟨by simp,hd _ _,hd _ _⟩
def BL(w:World)(gc:Nat):Nat:=match w.cell? ⟨gc,1,none⟩with| some v=>(intOf v).toNat| none=>0
theorem rV{w:World}{gc a:Nat}{t:ByteArray}{e:Int}(h:Cur w gc t a e):BL w gc=a:=by
 unfold BL;rw[h.cells.1.2.1];simp[intOf]
structure LInv (w0:World) (r1 r2 g gs gc B0:Nat) (t:ByteArray) (f:Nat->Nat) (a:Nat) (e:Int) (p:Pr) (w:World):Prop where
 kept:gZ w0 w
 tab:Tab w r1
 rd:fQ .i64 w r2 Bw
 seen:Bk w g ST (fL f)
 src:Src w gs gc t a e p
 base:B0<=w.heap.size
 nums:r1<B0/\r2<B0/\g<B0/\gs<B0/\gc<B0/\w0.heap.size<=g/\w0.heap.size<=gs/\w0.heap.size<=gc/\g≠gs/\g≠gc/\r1≠gs/\r1≠gc/\r2≠gs/\r2≠gc/\r1≠g/\r2≠g/\w0.heap.size<=B0
section
variable {w0 w w':World} {r1 r2 g gs gc B0 a:Nat} {t:ByteArray} {f:Nat->Nat} {e:Int} {p:Pr}
theorem LInv.below(h:LInv w0 r1 r2 g gs gc B0 t f a e p w)(hb:Below w.heap.size w w'):LInv w0 r1 r2 g gs gc B0 t f a e p w':=
 ⟨h.kept.below hb,h.tab.below hb h.tab.lt,h.rd.below hb h.rd.lt,h.seen.below hb h.seen.lt,h.src.below hb,aC h.base hb.size,h.nums⟩
theorem LInv.alloc(h:LInv w0 r1 r2 g gs gc B0 t f a e p w)(o:Obj):LInv w0 r1 r2 g gs gc B0 t f a e p (w.alloc o):=h.below ((aq _ _).alloc (ac _) o)
theorem LInv.mods{a':Nat}{e':Int}{p':Pr}(h:LInv w0 r1 r2 g gs gc B0 t f a e p w)(hm:Mods (two gs gc) w w')(hs:Src w' gs gc t a' e' p'):LInv w0 r1 r2 g gs gc B0 t f a' e' p' w':=by
 have hn:=h.nums;refine⟨hm.below h.kept (by have:=h.base;omega) (fun i hi=>by rcases hi with rfl| rfl<;>omega),?_,h.rd.mods hm (by rintro (x| x)<;>omega),h.seen.mods hm (by rintro (x| x)<;>omega),hs,aC h.base hm.size,hn⟩;exact(hm.block r1 h.tab.lt (by rintro (x| x)<;>omega)).trans h.tab
theorem LInv.again{f':Nat->Nat}(h:LInv w0 r1 r2 g gs gc B0 t f a e p w)(hm:w.grownBy w' (some g))(hs:Bk w' g ST (fL f')):LInv w0 r1 r2 g gs gc B0 t f' a e p w':=by
 have hn:=h.nums;have hb:∀i,i<w.heap.size->i≠g->w'.heap[i]? =w.heap[i]? :=fun i hi hne=>hm.block i hi (fun x=>hne (by cases x;rfl));refine⟨Below.grown h.kept hm (by have:=h.base;omega) (fun k hk=>by cases hk;omega),(hb r1 h.tab.lt (by omega)).trans h.tab,(hb r2 h.rd.lt (by omega)).trans h.rd,hs,⟨(hb gs h.src.1.lt (by omega)).trans h.src.1,(hb gc h.src.2.lt (by omega)).trans h.src.2.1,h.src.2.2⟩,aC h.base hm.size,hn⟩
theorem LInv.app{v:Value}(h:LInv w0 r1 r2 g gs gc B0 t f a e p w)(hg:w.grownBy w' v.ownBlock)(hv:∀k,v.ownBlock=some k->B0<=k):LInv w0 r1 r2 g gs gc B0 t f a e p w':=by
 have hn:=h.nums;have hb:∀i,i<w.heap.size->i<B0->w'.heap[i]? =w.heap[i]? :=fun i hi hne=>hg.block i hi (fun x=>by have:=hv i x.symm;omega);refine⟨h.kept.app hg (fun k hk=>by have:=hv k hk;omega),(hb r1 h.tab.lt (by omega)).trans h.tab,(hb r2 h.rd.lt (by omega)).trans h.rd,(hb g h.seen.lt (by omega)).trans h.seen,⟨(hb gs h.src.1.lt (by omega)).trans h.src.1,(hb gc h.src.2.lt (by omega)).trans h.src.2.1,h.src.2.2⟩,aC h.base hg.size,hn⟩
end
theorem Src.put{w:World}{gs gc a:Nat}{t:ByteArray}{e:Int}{p:Pr}(h:Src w gs gc t a e p)(q:Pr):
  Src ((((w.setCell ⟨gs,1,none⟩ (.int .i64 q.id)).setCell ⟨gs,2,none⟩ (.int .u32 q.n)).setCell ⟨gs,3,none⟩ (.string q.text)).setCell ⟨gs,4,none⟩ (.string q.value)) gs gc t a e q:=by
 have h1:=h.set 1 (.int .i64 q.id) {p with id:=q.id} rfl;have h2:=h1.set 2 (.int .u32 q.n) {p with id:=q.id,n:=q.n} rfl;have h3:=h2.set 3 (.string q.text) {q with value:=p.value} rfl;exact h3.set 4 (.string q.value) q rfl
theorem pY(w:World)(gs gc:Nat)(a b c d:Value):Mods (two gs gc) w ((((w.setCell ⟨gs,1,none⟩ a).setCell ⟨gs,2,none⟩ b).setCell ⟨gs,3,none⟩ c).setCell ⟨gs,4,none⟩ d):=
 ((((Mods.refl w).set gs 1 (.inl (.inl rfl)) a).set gs 2 (.inl (.inl rfl)) b).set gs 3 (.inl (.inl rfl)) c).set gs 4 (.inl (.inl rfl)) d
theorem Ej(t:ByteArray)(a:Nat)(h:a<t.size):br t a 0 1=fa t a/\(aH t a 0 1).2=(a+1,0):=by
 have hh:jQ t a 1=true:=by simp[jQ];omega
 have e:aH t a 0 1=(t.extract a (a+1),a+1,0):=by unfold aH;rw[if_pos rfl,if_pos hh];rfl
 refine⟨?_,by rw[e]⟩;unfold br fa;rw[e];have:ls (t.extract a (a+1))=[(ls t)[a]'(by rw[aN];exact h)]:=by
  unfold ls;rw[Lib.extract_data];apply dM;intro i;cases i with
  | zero=>simp[List.getElem?_drop]
  | succ i=>simp[List.getElem?_take]
 rw[this];simp[es,List.getD,List.getElem?_eq_getElem (show a<(ls t).length by rw[aN];exact h)]
end
def yR(r:List Pr×Int)(w:World)(e:Ending)(w':World):Prop:=
 ∃A c,e= .returned (.tuple #[.slice A r.1.length c,.int .i64 r.2])/\r.1.length<=c/\Rd w' w'.heap.size 4 A r.1.length (prs r.1)/\Below w.heap.size w w'
theorem ib{r:List Pr×Int}{x:Int}{w w':World}(h:r=([],x))(hb:Below w.heap.size w w'):yR r w (.returned (.tuple #[.slice none 0 0,.int .i64 x])) w':=by
 subst h;exact⟨none,0,rfl,ac _,Rd.nil _ _ _ _,hb⟩
theorem sI{id:Int}{r:Rule}{kind:Int}(h:cr id=r)(hh:ng r kind=true):1<=r.shape/\r.shape<=7:=by
 subst h;unfold cr at hh⊢;cases hf:dQ.find? fun q=>(q.1:Int)==id with
 | none=>rw[hf]at hh;simp[ng]at hh
 | some q=>
   have ht:∀q∈dQ,1<=q.2.shape/\q.2.shape<=7:=by decide
   exact ht q (jc hf)
theorem ey(w:World)(o:Obj):(w.alloc o).heap.size=w.heap.size+1:=by simp
theorem Cs(kind:Int)(t:ByteArray)(w:World)(ht:t.size<=140737488351232):
  Calls prog 111 #[.int .i64 kind,.string t] w (yR (fq kind t) w):=by
 have HT:=aa ht;clear ht
 go_enter func111,ntmps111
 go_wp2_with fail
 refine(rK _).mono ?_;rintro e w1 ⟨rfl,hT,hb1⟩;have HT1:=aa hT;have HB1:=aa hb1;clear hT hb1
 go_wp2_with fail
 refine(up _).mono ?_;rintro e w2 ⟨rfl,hR,hb2⟩;have hz1:w.heap.size<w1.heap.size:=HT1.o.lt;have hz2:w1.heap.size<w2.heap.size:=hR.lt;have HR2:=aa hR;have HB2:=aa hb2;clear hR hb2
 have HS3:=aa (Bk.fresh w2 ST (fL fun _=>0));have HB3:=aa ((aq w2.heap.size w2).alloc (ac _) (.cells (fL fun _=>0) ST));rw[kJ]at HS3 HB3
 go_wp2_with fail
 refine(jL t _ (by have:=HT.o;omega)).mono ?_;rintro e w4 ⟨rfl,hc4,hb4⟩;rw[ey]at hc4 hb4;have hz4:w2.heap.size+1<w4.heap.size:=hc4.lt;have HC4:=aa hc4;have HB4:=aa hb4;clear hc4 hb4
 have HI:Hid (LInv w w.heap.size w1.heap.size w2.heap.size w4.heap.size (w2.heap.size+1) (w4.heap.size+1) t (fun _=>0) 0 0 ⟨0,0,⟨#[]⟩,⟨#[]⟩⟩ (w4.alloc (.cells #[.pointer (some ⟨w2.heap.size+1,0,none⟩),.int .i64 0,.int .u32 0,.string ⟨#[]⟩,.string ⟨#[]⟩] SrT))):=aa (by
  have hb4:Below (w2.heap.size+1) (w2.alloc (.cells (fL fun _=>0) ST)) w4:=by rw[kJ];exact HB4.o
  have k1:gZ w w1:=HB1.o;have k2:gZ w w2:=k1.below HB2.o;have k4:gZ w w4:=(k2.alloc (.cells (fL fun _=>0) ST)).below (by simpa using hb4);refine⟨k4.alloc _,?_,?_,?_,⟨Bk.fresh _ _ _,HC4.o.1.alloc _,HC4.o.2⟩,by simp,by refine⟨?_,?_,?_,?_,?_,?_,?_,?_,?_,?_,?_,?_,?_,?_,?_,?_,?_⟩<;>omega⟩
  ·exact(((HT1.o.below HB2.o HT1.o.lt).alloc (.cells (fL fun _=>0) ST)).below hb4 (by omega)).alloc _
  ·exact(((HR2.o).alloc (.cells (fL fun _=>0) ST)).below hb4 (by omega)).alloc _
  ·have:=HS3.o;rw[<-kJ]at this;exact(this.below hb4 (by omega)).alloc _)
 go_wp2
 go_loopw [8] (fun v wr=>∃(a m:Nat) (f:Nat->Nat) (out:List Pr) (p:Pr),a<=t.size/\t.size<a+m/\fq kind t=iy kind t m a f out/\out.length<=1000/\(∀i,f i<=out.length)/\
   LInv w w.heap.size w1.heap.size w2.heap.size w4.heap.size (w2.heap.size+1) (w4.heap.size+1) t f a 0 p wr/\wr.ownsRow (w4.heap.size+1) 102 4 v out.length (prs out)) (fun _ wr=>t.size- BL wr (w2.heap.size+1))
 case atStart=>exact⟨0,t.size+1,fun _=>0,[],_,by omega,by omega,rfl,by simp,by simp,HI.o,dD _ _ _ _⟩
 case round=>
  obtain⟨a,m,f,out,p,ha,hm,hgo,hol,hf,hinv,hown⟩:=hrel;have HGO:=aa hgo;have HF:=aa hf;have HINV:=aa hinv;have HOWN:=aa hown
  have HPOS:=aa (rV hinv.src.2);clear hgo hf hown;obtain⟨⟨c0,-⟩,-⟩:=hinv.src.cells;clear hinv
  by_cases hlt:a<t.size
  ·have hp:(0:Int)<((t.size- a:Nat):Int):=by omega
   go_wp2_with fail
   refine(eI (w2.heap.size+1) a t 0 _ HINV.o.src.2).mono ?_;rintro e w5 ⟨rfl,hb⟩;have I5:=aa (HINV.o.below hb);have O5:=aa (dV HOWN.o hb);clear hb
   obtain⟨⟨c0',-⟩,-⟩:=I5.o.src.cells
   go_wp2_with fail
   refine(dR (w2.heap.size+1) a t 0 1 _ I5.o.src.2 (by omega)).mono ?_;rintro e w6 ⟨rfl,hc,hm6⟩;obtain⟨hn1,hn2⟩:=Ej t a hlt;rw[hn2]at hc;rw[hn1];have I6:=aa (I5.o.mods (Mods.of_grown hm6 (.inr rfl)) (I5.o.src.cur hc hm6));have O6:=aa (jg O5.o (Mods.of_grown (S:=fun i=>i=w2.heap.size+1) hm6 rfl) (fun g hg=>by have:=(cX O5.o g hg).1;omega));have HB6:Hid (w4.heap.size+1<=w6.heap.size):=aa I6.o.base;clear hc hm6 hn1 hn2 c0 c0';have hid:fa t a<256:=UInt8.toNat_lt _;obtain⟨sh,ki,le,mo,HRL,hlk⟩:=rL (fa t a);have hl1:=hlk _ _ I6.o.tab;have hw:IntKind.i64.wrap (fa t a:Int)=(fa t a:Int):=by rw[aQ];omega
   have HGO2:Hid (∃m',m=m'+1):=aa ⟨m- 1,by omega⟩;obtain⟨m',rfl⟩:=HGO2.o;have HG:Hid (fq kind t=iy kind t (m'+1) a f out):=HGO;unfold iy at HG;rw[HRL.o]at HG;simp only at HG;have HIA:Hid (fa t a<256):=aa hid;generalize fa t a=id at*;have HZ6:=aa (Bk.fresh w6 140 #[.int .i64 sh,.int .i64 ki,.int .u32 le,.int .u32 mo]);have I7:=aa (I6.o.alloc (.cells #[.int .i64 sh,.int .i64 ki,.int .u32 le,.int .u32 mo] 140));have O7:=aa (O6.o.alloc (.cells #[.int .i64 sh,.int .i64 ki,.int .u32 le,.int .u32 mo] 140));clear hlk
   go_wp2_with fail
   refine(vr ⟨sh,ki,le,mo⟩ (HRL.o▸nL id) kind _).mono ?_;rintro e w8 ⟨rfl,hb⟩;have I8:=aa (I7.o.below hb);have O8:=aa (dV O7.o hb);have HZ8:=aa (HZ6.o.below hb HZ6.o.lt)
   clear hb hl1 I6 O6 I7 O7 HZ6;cases hhas:ng ⟨sh,ki,le,mo⟩ kind
   ·have HX:Hid (fq kind t=([],9)):=aa (by rw[HG.o,ae (by omega),if_pos hhas]);have KF:=aa I8.o.kept;clear hhas;go_wp2;go_ret2;exact ib HX.o KF.o
   ·have HHAS:=aa hhas;have HG2:Hid (fq kind t=if(dW sh t (a+1)).err≠0 then([],(dW sh t (a+1)).err)else if de ⟨sh,ki,le,mo⟩ kind ⟨id,(dW sh t (a+1)).n,(dW sh t (a+1)).text,(dW sh t (a+1)).value⟩≠0 then([],de ⟨sh,ki,le,mo⟩ kind ⟨id,(dW sh t (a+1)).n,(dW sh t (a+1)).text,(dW sh t (a+1)).value⟩)
      else if iC f kind id=true then([],9)else if out.length=1000 then([],4)else iy kind t m' (dW sh t (a+1)).at_ (upd f id (f id+1)) (out++[⟨id,(dW sh t (a+1)).n,(dW sh t (a+1)).text,(dW sh t (a+1)).value⟩])):=aa (by
     rw[HG.o,ae (by omega),ae (by rw[hhas];decide)])
    have hsh:=sI HRL.o hhas;have hsh1:=hsh.1;have hsh7:=hsh.2;clear hhas HG hsh;have I9:=aa (I8.o.mods (pY w8 w4.heap.size (w2.heap.size+1) (.int .i64 id) (.int .u32 0) (.string ⟨#[]⟩) (.string ⟨#[]⟩)) (I8.o.src.put ⟨id,0,⟨#[]⟩,⟨#[]⟩⟩));have hl2:=(nY (P:=prog) (t:=180) (k:=3) (e:=184) (z:=.nilFunc) (by kernel_rfl) (by kernel_rfl) (by kernel_rfl) I9.o.rd (sh:Int)).1;rw[Cq sh hsh1 hsh7,kB,fnV]at hl2;obtain⟨⟨d0,d1,d2,d3,d4⟩,f1,f2,f3,f4⟩:=I8.o.src.cells;obtain⟨⟨e0,e1,e2,e3⟩,-⟩:=HZ8.o.four;have hcf:=CV sh hsh1 hsh7;have hvt:=xN HT.o (a:=a+1) sh;have hva:=xO (show a+1<=t.size by omega) sh;have HVT:=aa hvt;have HVA:=aa hva
    clear hvt hva
    go_wp2_with fail
    refine(DF sh hsh1 hsh7 w4.heap.size (w2.heap.size+1) (a+1) t id _ I9.o.src).mono ?_;rintro e w10 ⟨rfl,hs10,hm10⟩;have HZ10:=aa ((HZ8.o.mods (pY w8 w4.heap.size (w2.heap.size+1) (.int .i64 id) (.int .u32 0) (.string ⟨#[]⟩) (.string ⟨#[]⟩)) (by have:=HB6.o;rintro (x| x)<;>omega)).mods hm10 (by have:=HB6.o;rintro (x| x)<;>omega));have O10:=aa (jg (jg O8.o (pY w8 w4.heap.size (w2.heap.size+1) (.int .i64 id) (.int .u32 0) (.string ⟨#[]⟩) (.string ⟨#[]⟩)) (fun g hg=>by have:=(cX O8.o g hg).1;rintro (x| x)<;>omega)) hm10 (fun g hg=>by have:=(cX O8.o g hg).1;rintro (x| x)<;>omega));have I10:=aa (I9.o.mods hm10 hs10);clear hs10 hm10 hcf hl2 d0 d1 d2 d3 d4 f1 f2 f3 f4 e0 e1 e2 e3 HZ8 O8 I8 I9;generalize dW sh t (a+1)=V at*;obtain⟨vn,vt,vv,a',e'⟩:=V;simp only at HG2 HVT HVA I10;obtain⟨⟨d0,d1,d2,d3,d4⟩,-⟩:=I10.o.src.cells
    go_wp2_with fail
    refine(dG (w2.heap.size+1) a' t e' _ I10.o.src.2).mono ?_;rintro e w11 ⟨rfl,rfl⟩
    by_cases he0:e'=0
    ·subst he0;obtain⟨⟨e0,e1,e2,e3⟩,-⟩:=HZ10.o.four
     go_wp2_with fail
     refine(sw ⟨sh,ki,le,mo⟩ (HRL.o▸nL id) kind ⟨id,vn,vt,vv⟩ (rU (p:=⟨id,vn,vt,vv⟩) HVT.o) _).mono ?_;rintro e w12 ⟨rfl,hb⟩;have I12:=aa (I10.o.below hb);have O12:=aa (dV O10.o hb)
     clear hb d0 d1 d2 d3 d4 e0 e1 e2 e3 HZ10 I10 O10;obtain⟨E,hE⟩:∃E,de ⟨sh,ki,le,mo⟩ kind ⟨id,vn,vt,vv⟩=E:=⟨_,rfl⟩;rw[hE]at HG2⊢;have HE:=aa hE;clear hE
     by_cases hE0:E=0
     ·subst hE0;have hid64:=(nr (kind:=kind) (p:=⟨id,vn,vt,vv⟩) (by rw[show cr (⟨(id:Int),vn,vt,vv⟩:Pr).id=⟨sh,ki,le,mo⟩from HRL.o];exact HE.o)).1.2;simp only at hid64
      go_wp2_with fail
      refine(sB w2.heap.size f kind id (by omega) (by have:=HF.o id;omega) _ I12.o.seen).mono ?_;rintro e w13 ⟨rfl,hs3,hm3⟩;have I13:=aa (I12.o.again hm3 hs3);have O13:=aa (O12.o.kept hm3 (.inr fun x=>by have:=(cX O12.o _ x).1;omega));clear hs3 hm3 I12 O12;obtain⟨G,hG⟩:∃G,iC f kind id=G:=⟨_,rfl⟩;rw[hG]at HG2⊢;clear hG;cases G
      ·obtain⟨A,c,rfl,hc,hrd⟩:=jK O13.o;have HRD:=aa hrd;have HC:=aa hc;clear hrd hc
       by_cases hfull:out.length=1000
       ·have eF:((out.length:Int)==1000)=true:=aK.2 (by omega);have HX:Hid (fq kind t=([],4)):=aa (by rw[HG2.o,ae (by simp),ae (by simp),ae (by simp),if_pos hfull]);have KF:=aa I13.o.kept;clear hfull;go_wp2;go_ret2;exact ib HX.o KF.o
       ·have eF:((out.length:Int)==1000)=false:=ar.2 (by omega);have HX:Hid (fq kind t=iy kind t m' a' (upd f id (f id+1)) (out++[⟨id,vn,vt,vv⟩])):=aa (by rw[HG2.o,ae (by simp),ae (by simp),ae (by simp),ae hfull]);have HFULL:Hid (out.length<1000):=aa (by omega);clear hfull;obtain⟨⟨d0,d1,d2,d3,d4⟩,-⟩:=I13.o.src.cells;have hq2:∀g,(Value.slice A out.length c).ownBlock=some g->w4.heap.size+1<=g:=fun g hg=>(cX O13.o g hg).1;have HQ:=aa hq2;clear hq2
        go_wp2_with (at_builtin;refine kF _ rfl (.tmp 63) (.tmp 66) 23 rfl (w4.heap.size+1) 102 _ 4 48 underlying23 zZ rfl (by decide) (.slice A out.length c) _ _ rfl (O13.o.alloc _) _ _ 1 1 (prs [⟨id,vn,vt,vv⟩]) rfl (Rd.one4 _ ⟨id,vn,vt,vv⟩) (Eb _) (by have:=HFULL.o;unfold maxLen;omega) (by have:=HFULL.o;omega) (by have:=I13.o.base;simp;omega) ?_;intro v' w14 hown14 hg14 hat14)
        have R:LInv w w.heap.size w1.heap.size w2.heap.size w4.heap.size (w2.heap.size+1) (w4.heap.size+1) t (upd f id (f id+1)) a' 0 ⟨id,vn,vt,vv⟩ w14/\w14.ownsRow (w4.heap.size+1) 102 4 v' (out++[(⟨id,vn,vt,vv⟩:Pr)]).length (prs (out++[⟨id,vn,vt,vv⟩]))/\(∀i,upd f id (f id+1) i<=(out++[(⟨id,vn,vt,vv⟩:Pr)]).length):=by
         refine⟨(I13.o.alloc _).app hg14 HQ.o,?_,fun i=>?_⟩
         ·rw[wK,List.length_append];exact hown14
         ·rw[List.length_append];have q1:=HF.o id;have q2:=HF.o i
          unfold upd;split<;>(simp only[qU];omega)
        have HR:=aa R;have HP2:=aa (rV R.1.src.2);clear R hown14 hg14 hat14 d0 d1 d2 d3 d4;go_wp2
        go_roundw
        case rel=>
         refine⟨a',m',upd f id (f id+1),out++[⟨id,vn,vt,vv⟩],⟨id,vn,vt,vv⟩,HVA.o.2,by have:=HVA.o.1;omega,HX.o,?_,HR.o.2.2,HR.o.1,HR.o.2.1⟩;rw[List.length_append];have:=HFULL.o;simp only[qU];omega
        case measure=>
         simp only[HP2.o,HPOS.o];have:=HVA.o.1;omega
      ·have HX:Hid (fq kind t=([],9)):=aa (by rw[HG2.o,ae (by simp),ae (by simp),if_pos rfl]);have KF:=aa I13.o.kept;go_wp2;go_ret2;exact ib HX.o KF.o
     ·have e0:(E !=0)=true:=aA.2 hE0;have HX:Hid (fq kind t=([],E)):=aa (by rw[HG2.o,ae (by simp),if_pos hE0]);have KF:=aa I12.o.kept;clear hE0;go_wp2;go_ret2;exact ib HX.o KF.o
    ·have e0:(e' !=0)=true:=aA.2 he0;have HX:Hid (fq kind t=([],e')):=aa (by rw[HG2.o,if_pos he0]);have KF:=aa I10.o.kept;clear he0;go_wp2;go_ret2;exact ib HX.o KF.o
  ·have hp:¬((0:Int)<((t.size- a:Nat):Int)):=by omega
   have hp0:((t.size- a:Nat):Int)<=0:=by omega
   obtain⟨m',rfl⟩:∃m',m=m'+1:=⟨m- 1,by omega⟩;have HG2:Hid (fq kind t=if jp f=true then([],9)else(out,0)):=aa (by rw[HGO.o,iy,if_pos (by omega)])
   go_wp2_with fail
   refine(eI (w2.heap.size+1) a t 0 _ HINV.o.src.2).mono ?_;rintro e w5 ⟨rfl,hb⟩;have I5:=aa (HINV.o.below hb);have O5:=aa (dV HOWN.o hb);clear hb
   clear c0
   go_wp2_with fail
   refine(u6 w2.heap.size f _ I5.o.seen).mono ?_;rintro e w6 ⟨rfl,hw2⟩;subst hw2;rw[show(decide (0<f 22)&&f 21==0)=jp f from rfl];have KF:=aa I5.o.kept;cases hL:jp f
   ·have HX:Hid (fq kind t=(out,0)):=aa (by rw[HG2.o,hL];rfl);obtain⟨A,c,rfl,hc,hrd⟩:=jK O5.o;have HC:=aa hc;have HRD:=aa hrd
    clear hL hc hrd;go_wp2;go_ret2;rw[HX.o];exact⟨A,c,rfl,HC.o,HRD.o,KF.o⟩
   ·have HX:Hid (fq kind t=([],9)):=aa (by rw[HG2.o,hL];rfl);clear hL;go_wp2;go_ret2;exact ib HX.o KF.o
theorem Jd(n:Nat)(h:n<256):es (da n 1)=n:=by
 simp[es,da,List.range_succ,UInt8.toNat_ofNat'];omega
theorem H7(n:Nat)(h:n<65536):es (da n 2)=n:=by
 simp[es,da,List.range_succ,UInt8.toNat_ofNat'];omega
theorem Oy(n:Nat)(h:n<4294967296):es (da n 4)=n:=by
 simp[es,da,List.range_succ,UInt8.toNat_ofNat'];omega
theorem pZ(l:List UInt8)(h:l.length=1):da (es l) 1=l:=by
 match l,h with
 | [a],_=>
   simp[es,da,List.range_succ]
theorem rG{n:Nat}{a:UInt8}(h:n% 256=a.toNat):UInt8.ofNat n=a:=by
 apply UInt8.toNat.inj;rw[UInt8.toNat_ofNat'];exact h
theorem lm(l:List UInt8)(h:l.length=2):da (es l) 2=l:=by
 match l,h with
 | [a,b],_=>
   have h1:=a.toNat_lt;have h2:=b.toNat_lt
   simp only[es,da,List.range_succ,List.range_zero,dX,IJ,fI,gC,jq,List.foldl_nil];simp only[gY,Hj];exact⟨by rw[if_pos (by omega)];exact rG (by simp<;>omega),by rw[if_pos (by omega)];exact rG (by simp<;>omega)⟩
theorem BE(l:List UInt8)(h:l.length=4):da (es l) 4=l:=by
 match l,h with
 | [a,b,c,d],_=>
   have h1:=a.toNat_lt;have h2:=b.toNat_lt;have h3:=c.toNat_lt;have h4:=d.toNat_lt
   simp only[es,da,List.range_succ,List.range_zero,dX,IJ,fI,gC,jq,List.foldl_nil];simp only[gY,Hj];exact⟨by rw[if_pos (by omega)];exact rG (by simp<;>omega),by rw[if_pos (by omega)];exact rG (by simp<;>omega),by rw[if_pos (by omega)];exact rG (by simp<;>omega),by rw[if_pos (by omega)];exact rG (by simp<;>omega)⟩
theorem db(t:ByteArray)(a k:Nat):ls (t.extract a (a+k))=((ls t).drop a).take k:=by
 unfold ls;rw[Lib.extract_data]
 congr 1
 omega
theorem sd{t:ByteArray}{a k:Nat}(h:a+k<=t.size):bp t a 0 k=(t.extract a (a+k),a+k,0):=by
 unfold bp;rw[if_pos rfl,if_pos (by simp[jQ];omega)];simp
theorem Cc{t:ByteArray}{a k:Nat}(h:¬a+k<=t.size):bp t a 0 k=(⟨#[]⟩,a,5):=by
 unfold bp;rw[if_pos rfl,ae (by simp[jQ];omega)]
theorem Hz{t:ByteArray}{a:Nat}{x rest:List UInt8}(h:(ls t).drop a=x++rest)(ha:a<=t.size):bp t a 0 (x.length:Nat)=(⟨x.toArray⟩,a+x.length,0):=by
 have hl:a+x.length<=t.size:=by
  have:=congrArg List.length h;rw[bU,List.length_append,aN]at this;omega
 rw[sd hl];refine Prod.ext ?_ rfl;apply eX;rw[db,h,jo];simp
theorem Iw{t:ByteArray}{a:Nat}{x rest:List UInt8}(h:(ls t).drop a=x++rest):(ls t).drop (a+x.length)=rest:=by
 rw[<-et,h];simp
theorem jN{t:ByteArray}{a k:Nat}(_ha:a<=t.size)(h:(bp t a 0 k).2.2=0):a+k<=t.size/\(ls t).drop a=ls (bp t a 0 k).1++(ls t).drop (a+k)/\(bp t a 0 k).2.1=a+k/\(bp t a 0 k).1.size=k:=by
 by_cases hk:a+k<=t.size
 ·rw[sd hk];refine⟨hk,?_,rfl,?_⟩
  ·simp only[db];rw[<-et,cg]
  ·show(t.extract a (a+k)).size=k;rw[aj];omega
 ·rw[Cc hk]at h;simp at h
theorem si(s:ByteArray):ls (cQ s)=da s.size 2++ls s:=by
 unfold cQ;unfold ls;rw[ByteArray.data_append];simp
theorem JQ{t:ByteArray}{a:Nat}{s:ByteArray}{rest:List UInt8}(h:(ls t).drop a=ls (cQ s)++rest)(ha:a<=t.size)(hs:s.size<=65535):dH t a 0=(s,a+2+s.size,0):=by
 rw[si,List.append_assoc]at h;have h1:=Hz h ha;rw[fM]at h1;have h2:=Iw h;rw[fM]at h2;have hl:a+2<=t.size:=by
  have:=congrArg List.length h;rw[bU,List.length_append,aN,fM]at this;omega
 unfold dH;rw[show((2:Int))=((2:Nat):Int)from rfl,h1];simp only[jo];rw[H7 _ (by omega)];have h3:=Hz h2 hl;rw[aN]at h3;rw[h3];simp[Ck]
theorem Ah{t:ByteArray}{a:Nat}(h:(bp t a 0 2).2.2≠0):(dH t a 0).2.2≠0:=by
 unfold dH;generalize bp t a 0 2=D at*;obtain⟨d,b,e⟩:=D;simp only at h⊢;unfold bp;rw[ae h];exact h
theorem qC{t:ByteArray}{a:Nat}(ha:a<=t.size)(h:(dH t a 0).2.2=0):(dH t a 0).1.size<=65535/\(ls t).drop a=ls (cQ (dH t a 0).1)++(ls t).drop (dH t a 0).2.1/\(dH t a 0).2.1=a+2+(dH t a 0).1.size:=by
 have h0:(bp t a 0 2).2.2=0:=by
  rcases Decidable.em ((bp t a 0 2).2.2=0)with h1| h1
  ·exact h1
  ·exact absurd h (Ah h1)
 obtain⟨h1,h2,h3,h4⟩:=jN (k:=2) ha h0;have hq:=ka (ls (bp t a 0 2).1);have hl2:(ls (bp t a 0 2).1).length=2:=by rw[aN];exact h4
 rw[hl2]at hq;have hpg:=lm _ hl2;unfold dH at h⊢;rw[show((2:Int))=((2:Nat):Int)from rfl]at*;rw[h0,h3]at h⊢;generalize hq':es (ls (bp t a 0 ((2:Nat):Int)).1)=q at*;obtain⟨h5,h6,h7,h8⟩:=jN (k:=q) h1 h;refine⟨by rw[h8];omega,?_,by rw[h7,h8]⟩;rw[h2,h6,si,h8,hpg,h7];simp
theorem yc:∀(l:List UInt8) (n k n' k':Nat),k<=3->rv l n k=(n',k',0)->∃m,n'=n+m*2^ (7*k)/\m<128^ (4- k)/\(0<k->0<m)/\l=ig (3- k) m++l.drop (k'- k)/\k'=k+(ig (3- k) m).length
 | [],n,k,n',k',hk,h=>by simp[rv]at h
 | b :: l,n,k,n',k',hk,h=>by
   rw[rv]at h;have hb:=b.toNat_lt;split at h
   ·rename_i h1;split at h
    ·simp at h
    ·rename_i h3;obtain⟨m,hm1,hm2,hm3,hm4,hm5⟩:=yc l (pushN n k b) (k+1) n' k' (by omega) h;have hm3':=hm3 (by omega);have hf:3- k=(3- (k+1))+1:=by omega
     have hge:¬(b.toNat% 128+m*128<128):=by omega
     have e1:(b.toNat% 128+m*128) % 128+128=b.toNat:=by omega
     have e2:(b.toNat% 128+m*128) / 128=m:=by omega
     have hv:ig (3- k) (b.toNat% 128+m*128)=b :: ig (3- (k+1)) m:=by
      rw[hf,ig,ae hge,e1,e2];simp
     refine⟨b.toNat% 128+m*128,?_,?_,fun _=>by omega,?_,?_⟩
     ·rw[hm1];unfold pushN;rw[show 7*(k+1)=7*k+7 by omega,Nat.pow_add,iK,show(2:Nat) ^ 7=128 by rfl];generalize 2^ (7*k)=X;rw[eV X 128,<-Nat.mul_assoc];omega
     ·have h4:4- k=(4- (k+1))+1:=by omega
      rw[h4,Nat.pow_succ];omega
     ·rw[hv];have hk':k'- k=(k'- (k+1))+1:=by omega
      rw[hk',ji];exact congrArg (b :: ·) hm4
     ·rw[hv,hm5,bM];omega
   ·rename_i h1;split at h
    ·simp at h
    ·rename_i h2;simp only[bG]at h;obtain⟨rfl,rfl,-⟩:=h;have hv:ig (3- k) b.toNat=[b]:=by
      rcases dh (3- k)with h0| h0
      ·rw[h0,ig];simp
      ·obtain⟨f,hf⟩:∃f,3- k=f+1:=⟨3- k- 1,by omega⟩;rw[hf,ig,if_pos (by omega)];simp
     refine⟨b.toNat,?_,?_,fun h0=>?_,?_,?_⟩
     ·unfold pushN;rw[Nat.mod_eq_of_lt (by omega)]
     ·have:128^ 1<=128^ (4- k):=df (by omega) (by omega);omega
     ·rcases dh b.toNat with hz| hz
      ·exact absurd ⟨hz,h0⟩ h2
      ·exact hz
     ·rw[hv];simp
     ·rw[hv];rfl
theorem mE{l:List UInt8}{n k:Nat}(h:bm l=(n,k,0)):l=eP n++l.drop k/\k=(eP n).length/\n<=268435455:=by
 obtain⟨m,h1,h2,_,h4,h5⟩:=yc l 0 0 n k (by omega) h;simp at h1 h2 h4 h5;subst h1;exact⟨h4,by simpa [eP]using h5,by omega⟩
theorem Kt{s:ByteArray}(h:s.toList.isEmpty=true):s=⟨#[]⟩:=by
 have h0:=mL h;apply eX;have:(ls s).length=0:=by rw[aN];exact h0
 rw[aF this];rfl
theorem Kw{kind:Int}{p:Pr}(h:de (cr p.id) kind p=0):ng (cr p.id) kind=true/\(gH p.id<=4->p.text=⟨#[]⟩/\p.value=⟨#[]⟩)/\(gH p.id=1->p.n<256)/\(gH p.id=2->p.n<65536)/\
  (5<=gH p.id->p.n=0)/\(5<=gH p.id->gH p.id≠7->p.value=⟨#[]⟩)/\(5<=gH p.id->gH p.id≠6->bN p.text=true/\bN p.value=true):=by
 have hh:ng (cr p.id) kind=true:=by
  cases hb:ng (cr p.id) kind
  ·unfold de at h;rw[hb]at h;simp at h
  ·rfl
 have hq:∃q∈dQ,(q.1:Int)=p.id/\cr p.id=q.2:=by
  have hh':=hh;unfold cr at hh'⊢;cases hf:dQ.find? fun q=>(q.1:Int)==p.id with
  | none=>rw[hf]at hh';simp[ng]at hh'
  | some q=>exact⟨q,jc hf,by simpa using List.find?_some hf,rfl⟩
 obtain⟨q,hm,hid,hr⟩:=hq;have ht:∀q∈dQ,(q.2.shape=1->q.2.most<256)/\(q.2.shape=2->q.2.most<65536):=by decide
 obtain⟨h1,h2⟩:=ht q hm;refine⟨hh,?_⟩;unfold de at h;rw[hh]at h;unfold gH;rw[hr]at h⊢;simp only[Bool.true_eq_false,if_false]at h
 by_cases h4:q.2.shape<=4
 ·rw[if_pos h4]at h;unfold zK at h;split at h
  ·exact absurd h (by decide)
  ·rename_i hte;split at h
   ·exact absurd h (by decide)
   ·rename_i hmm;have e1:p.text.toList.isEmpty=true:=by
     cases hb:p.text.toList.isEmpty
     ·exact absurd (.inl hb) hte
     ·rfl
    have e2:p.value.toList.isEmpty=true:=by
     cases hb:p.value.toList.isEmpty
     ·exact absurd (.inr hb) hte
     ·rfl
    exact⟨fun _=>⟨Kt e1,Kt e2⟩,fun hs=>by have:=h1 hs;omega,fun hs=>by have:=h2 hs;omega,fun hs=>by omega,fun hs=>by omega,fun hs=>by omega⟩
 ·rw[ae h4]at h;split at h
  ·exact absurd h (by decide)
  ·rename_i hnv;have hn:p.n=0:=by
    rcases dh p.n with h0| h0
    ·exact h0
    ·exact absurd (.inl (by omega)) hnv
   have hv7:q.2.shape≠7->p.value=⟨#[]⟩:=fun h7=>by
    apply Kt;cases hb:p.value.toList.isEmpty
    ·exact absurd (.inr ⟨hb,h7⟩) hnv
    ·rfl
   refine⟨fun hs=>absurd hs h4,fun hs=>by omega,fun hs=>by omega,fun _=>hn,fun _=>hv7,fun _ h6=>?_⟩;rw[ae h6]at h;split at h
   ·exact absurd h (by decide)
   ·rename_i hval
    constructor
    ·cases hb:bN p.text
     ·exact absurd (.inl hb) hval
     ·rfl
    ·cases hb:bN p.value
     ·exact absurd (.inr hb) hval
     ·rfl
theorem Ja{t:ByteArray}{a:Nat}{s:ByteArray}{rest:List UInt8}(h:(ls t).drop a=ls (cQ s)++rest)(ha:a<=t.size)(hs:s.size<=65535)(hv:bN s=true):dd t a 0=(s,a+2+s.size,0):=by
 unfold dd;rw[JQ h ha hs];simp[hv]
theorem Mc{kind:Int}{p:Pr}{t:ByteArray}{a:Nat}{rest:List UInt8}(hc:de (cr p.id) kind p=0)(hn:p.n<4294967296)(h:(ls t).drop a=ls (kc (gH p.id) p)++rest)(ha:a<=t.size):
  dW (gH p.id) t a=⟨p.n,p.text,p.value,a+(kc (gH p.id) p).size,0⟩:=by
 obtain⟨_,k1,k7,k4,kt,kv⟩:=nr hc;obtain⟨_,e4,en1,en2,en,ev,eva⟩:=Kw hc;have hcase:gH p.id=1\/gH p.id=2\/gH p.id=3\/gH p.id=4\/gH p.id=5\/gH p.id=6\/gH p.id=7:=by omega
 have hz:∀k:Nat,(⟨(da p.n k).toArray⟩:ByteArray).size=k:=fun k=>by show(da p.n k).toArray.size=k;simp[fM]
 rcases hcase with hs| hs| hs| hs| hs| hs| hs<;>rw[hs]at h e4 en1 en2 en ev eva k4 kt kv⊢
 ·have ev1:kc 1 p=⟨(da p.n 1).toArray⟩:=rfl;rw[ev1]at h⊢;rw[jo (da p.n 1)]at h;have h1:=Hz h ha;rw[fM]at h1;obtain⟨t1,t2⟩:=e4 (by omega);rw[hz,t1,t2];unfold dW;rw[if_pos rfl,show(1:Int)=((1:Nat):Int)from rfl,h1];simp only[jo];rw[Jd _ (en1 rfl)]
 ·have ev1:kc 2 p=⟨(da p.n 2).toArray⟩:=rfl;rw[ev1]at h⊢;rw[jo (da p.n 2)]at h;have h1:=Hz h ha;rw[fM]at h1;obtain⟨t1,t2⟩:=e4 (by omega);rw[hz,t1,t2];unfold dW;rw[ae (by omega),if_pos rfl,show(2:Int)=((2:Nat):Int)from rfl,h1];simp only[jo];rw[H7 _ (en2 rfl)]
 ·have ev1:kc 3 p=⟨(da p.n 4).toArray⟩:=rfl;rw[ev1]at h⊢;rw[jo (da p.n 4)]at h;have h1:=Hz h ha;rw[fM]at h1;obtain⟨t1,t2⟩:=e4 (by omega);rw[hz,t1,t2];unfold dW;rw[ae (by omega),ae (by omega),if_pos rfl,show(4:Int)=((4:Nat):Int)from rfl,h1];simp only[jo];rw[Oy _ hn]
 ·have ev1:kc 4 p=⟨(eP p.n).toArray⟩:=rfl;rw[ev1]at h⊢;rw[jo (eP p.n)]at h;obtain⟨t1,t2⟩:=e4 (by omega);have hsz:(⟨(eP p.n).toArray⟩:ByteArray).size=(eP p.n).length:=by show(eP p.n).toArray.size=_;simp
  rw[hsz,t1,t2];unfold dW;rw[ae (by omega),ae (by omega),ae (by omega),if_pos rfl];unfold mz;rw[h,wz _ (k4 rfl)];rfl
 ·have ev1:kc 5 p=cQ p.text:=rfl;rw[ev1]at h⊢;have h1:=Ja h ha (kt (by omega)) (eva (by omega) (by omega)).1;rw[eN,en (by omega),ev (by omega) (by omega)];unfold dW;rw[ae (by omega),ae (by omega),ae (by omega),ae (by omega),if_pos rfl,h1];simp only[VRead.mk.injEq,true_and,Hj];omega
 ·have ev1:kc 6 p=cQ p.text:=rfl;rw[ev1]at h⊢;have h1:=JQ h ha (kt (by omega));rw[eN,en (by omega),ev (by omega) (by omega)];unfold dW;rw[ae (by omega),ae (by omega),ae (by omega),ae (by omega),ae (by omega),if_pos rfl,h1];simp only[VRead.mk.injEq,true_and,Hj];omega
 ·have ev1:kc 7 p=cQ p.text++cQ p.value:=rfl;rw[ev1]at h⊢;have hl:ls (cQ p.text++cQ p.value)=ls (cQ p.text)++ls (cQ p.value):=by unfold ls;rw[ByteArray.data_append];simp
  rw[hl,List.append_assoc]at h;obtain⟨v1,v2⟩:=eva (by omega) (by omega);have h1:=Ja h ha (kt (by omega)) v1;have h2:=Iw h;rw[aN,eN]at h2;have ha2:a+(p.text.size+2)<=t.size:=by
   have:=congrArg List.length h;rw[bU,List.length_append,aN,aN,eN]at this;omega
  have h3:=Ja h2 ha2 (kv (by omega)) v2;rw[cK,eN,eN,en (by omega)];unfold dW;rw[ae (by omega),ae (by omega),ae (by omega),ae (by omega),ae (by omega),ae (by omega)];unfold jJ;rw[h1];simp only;rw[show a+2+p.text.size=a+(p.text.size+2) by omega,h3];simp only[VRead.mk.injEq,true_and,Hj];omega
theorem mw{t:ByteArray}{a:Nat}(ha:a<=t.size)(h:(dd t a 0).2.2=0):(ls t).drop a=ls (cQ (dd t a 0).1)++(ls t).drop (dd t a 0).2.1/\(dd t a 0).2.1=a+2+(dd t a 0).1.size/\(dd t a 0).2.1<=t.size:=by
 have h0:(dH t a 0).2.2=0:=by
  unfold dd at h;simp only at h;split at h
  ·exact absurd h (by decide)
  ·exact h
 obtain⟨_,h1,h2⟩:=qC ha h0;exact⟨h1,h2,(lH ha 0).2⟩
theorem yT{t:ByteArray}{a:Nat}{e:Int}(h:e≠0):(dd t a e).2.2=e:=by
 have h1:(dH t a e).2.2=e:=by
  unfold dH bp;simp[h]
 unfold dd;simp only[h1];rw[ae (fun x=>h x.1)]
theorem yY{sh:Nat}{t:ByteArray}{a:Nat}(h1:1<=sh)(h7:sh<=7)(ha:a<=t.size)(h:(dW sh t a).err=0)(id:Int):
  (ls t).drop a=ls (kc sh ⟨id,(dW sh t a).n,(dW sh t a).text,(dW sh t a).value⟩)++(ls t).drop (dW sh t a).at_/\(dW sh t a).at_=a+(kc sh ⟨id,(dW sh t a).n,(dW sh t a).text,(dW sh t a).value⟩).size:=by
 have hz:∀n k:Nat,(⟨(da n k).toArray⟩:ByteArray).size=k:=fun n k=>by show(da n k).toArray.size=k;simp[fM]
 have hcase:sh=1\/sh=2\/sh=3\/sh=4\/sh=5\/sh=6\/sh=7:=by omega
 rcases hcase with rfl| rfl| rfl| rfl| rfl| rfl| rfl
 ·have e:dW 1 t a=⟨es (ls (bp t a 0 1).1),⟨#[]⟩,⟨#[]⟩,(bp t a 0 1).2.1,(bp t a 0 1).2.2⟩:=rfl;rw[e]at h⊢;obtain⟨b1,b2,b3,b4⟩:=jN (k:=1) ha h;have hp:=pZ (ls (bp t a 0 ((1:Nat):Int)).1) (by rw[aN];exact b4);show _=ls (⟨(da _ 1).toArray⟩:ByteArray)++_/\_=a+(⟨(da _ 1).toArray⟩:ByteArray).size;rw[hz,jo];simp only;rw[show((1:Int))=((1:Nat):Int)from rfl,hp,b3];exact⟨b2,rfl⟩
 ·have e:dW 2 t a=⟨es (ls (bp t a 0 2).1),⟨#[]⟩,⟨#[]⟩,(bp t a 0 2).2.1,(bp t a 0 2).2.2⟩:=rfl;rw[e]at h⊢;obtain⟨b1,b2,b3,b4⟩:=jN (k:=2) ha h;have hp:=lm (ls (bp t a 0 ((2:Nat):Int)).1) (by rw[aN];exact b4);show _=ls (⟨(da _ 2).toArray⟩:ByteArray)++_/\_=a+(⟨(da _ 2).toArray⟩:ByteArray).size;rw[hz,jo];simp only;rw[show((2:Int))=((2:Nat):Int)from rfl,hp,b3];exact⟨b2,rfl⟩
 ·have e:dW 3 t a=⟨es (ls (bp t a 0 4).1),⟨#[]⟩,⟨#[]⟩,(bp t a 0 4).2.1,(bp t a 0 4).2.2⟩:=rfl;rw[e]at h⊢;obtain⟨b1,b2,b3,b4⟩:=jN (k:=4) ha h;have hp:=BE (ls (bp t a 0 ((4:Nat):Int)).1) (by rw[aN];exact b4);show _=ls (⟨(da _ 4).toArray⟩:ByteArray)++_/\_=a+(⟨(da _ 4).toArray⟩:ByteArray).size;rw[hz,jo];simp only;rw[show((4:Int))=((4:Nat):Int)from rfl,hp,b3];exact⟨b2,rfl⟩
 ·have e:dW 4 t a=⟨(mz t a).1,⟨#[]⟩,⟨#[]⟩,(mz t a).2.1,(mz t a).2.2⟩:=rfl;rw[e]at h⊢;simp only at h;show _=ls (⟨(eP _).toArray⟩:ByteArray)++_/\_=a+(⟨(eP _).toArray⟩:ByteArray).size;unfold mz at h⊢;generalize hR:bm ((ls t).drop a)=R at*;obtain⟨n,k,x⟩:=R;simp only at h⊢
  by_cases hx:x=0
  ·subst hx;rw[if_pos rfl];simp only;obtain⟨r1,r2,_⟩:=mE hR;have hsz:(⟨(eP n).toArray⟩:ByteArray).size=(eP n).length:=by show(eP n).toArray.size=_;simp
   rw[hsz,jo,<-r2,<-et];exact⟨r1,rfl⟩
  ·rw[ae hx]at h;simp at h
 ·have e:dW 5 t a=⟨0,(dd t a 0).1,⟨#[]⟩,(dd t a 0).2.1,(dd t a 0).2.2⟩:=rfl;rw[e]at h⊢;obtain⟨b1,b2,_⟩:=mw ha h;show _=ls (cQ _)++_/\_=a+(cQ _).size;rw[eN];exact⟨b1,by simp only;omega⟩
 ·have e:dW 6 t a=⟨0,(dH t a 0).1,⟨#[]⟩,(dH t a 0).2.1,(dH t a 0).2.2⟩:=rfl;rw[e]at h⊢;obtain⟨_,b1,b2⟩:=qC ha h;show _=ls (cQ _)++_/\_=a+(cQ _).size;rw[eN];exact⟨b1,by simp only;omega⟩
 ·have e:dW 7 t a=⟨0,(jJ t a 0).1.1,(jJ t a 0).1.2,(jJ t a 0).2.1,(jJ t a 0).2.2⟩:=rfl;rw[e]at h⊢;show _=ls (cQ _++cQ _)++_/\_=a+(cQ _++cQ _).size;have hl:∀x y:ByteArray,ls (x++y)=ls x++ls y:=fun x y=>by unfold ls;rw[ByteArray.data_append];simp
  rw[hl,cK,eN,eN];unfold jJ at h⊢;simp only at h⊢;have h0:(dd t a 0).2.2=0:=by
   rcases Decidable.em ((dd t a 0).2.2=0)with h1| h1
   ·exact h1
   ·rw[yT h1]at h;exact absurd h h1
  obtain⟨b1,b2,b3⟩:=mw ha h0;rw[h0]at h⊢;obtain⟨d1,d2,_⟩:=mw b3 h;rw[List.append_assoc,<-d1];exact⟨b1,by omega⟩
theorem xd{t:ByteArray}{a:Nat}{b:UInt8}{rest:List UInt8}(h:(ls t).drop a=b :: rest):fa t a=b.toNat/\a<t.size/\(ls t).drop (a+1)=rest:=by
 have hl:a<t.size:=by
  have:=congrArg List.length h;rw[bU,bM,aN]at this;omega
 have hd:=bQ (show a<(ls t).length by rw[aN];exact hl);rw[h]at hd;simp only[gY]at hd;refine⟨?_,hl,hd.2.symm⟩;unfold fa;rw[List.getD,List.getElem?_eq_getElem (show a<(ls t).length by rw[aN];exact hl)];simp[<-hd.1]
theorem Qh{kind:Int}{p:Pr}(h:de (cr p.id) kind p=0):((UInt8.ofNat p.id.toNat).toNat:Nat)=p.id.toNat/\((p.id.toNat:Nat):Int)=p.id:=by
 have:=(nr h).1;rw[UInt8.toNat_ofNat'];omega
theorem Ko(kind:Int)(t:ByteArray):∀(l:List Pr) (m a:Nat) (f:Nat->Nat) (out:List Pr) (rest:List UInt8),(ls t).drop a=l.flatMap jI++rest->a<=t.size->t.size<a+m->ckL kind l->oK kind f l->out.length+l.length<=1000->(∀p∈l,p.n<4294967296)->
  ∃m' a' f',iy kind t m a f out=iy kind t m' a' f' (out++l)/\(ls t).drop a'=rest/\a'<=t.size/\t.size<a'+m'/\(∀k,f' k=f k+cnt k l)
 | [],m,a,f,out,rest,h,ha,hm,_,_,_,_=>⟨m,a,f,by simp,by simpa using h,ha,hm,fun k=>by simp[cnt]⟩
 | p :: l,m,a,f,out,rest,h,ha,hm,hc,ho,hl,hn=>by
   have hcp:=hc p (by simp);have hnp:=hn p (by simp);obtain⟨i1,i2⟩:=Qh hcp;rw[cF,List.append_assoc]at h;have h':(ls t).drop a=UInt8.ofNat p.id.toNat :: (ls (kc (gH p.id) p)++(l.flatMap jI++rest)):=h;obtain⟨e1,e2,e3⟩:=xd h';rw[i1]at e1;have hv:=Mc hcp hnp e3 e2;have ha':a+1+(kc (gH p.id) p).size<=t.size:=by
    have:=congrArg List.length e3;rw[bU,List.length_append,aN,aN]at this;omega
   have hd:=Iw e3;rw[aN]at hd;have hag:¬(1<=f p.id.toNat/\gS kind p.id.toNat=false):=fun hx=>by
    have:=ho p (by simp) hx.2;rw[lJ]at this;simp at this;omega
   have hagB:¬iC f kind p.id.toNat=true:=fun x=>hag ((kU _ _ _).1 x);obtain⟨m0,rfl⟩:∃m0,m=m0+1:=⟨m- 1,by omega⟩;have hstep:iy kind t (m0+1) a f out=iy kind t m0 (a+1+(kc (gH p.id) p).size) (upd f p.id.toNat (f p.id.toNat+1)) (out++[p]):=by
    rw[iy,ae (by omega),e1,i2];have hs:(cr p.id).shape=gH p.id:=rfl;rw[hs,hv,ae (by rw[(Kw hcp).1];decide)];simp only;have hpp:(⟨p.id,p.n,p.text,p.value⟩:Pr)=p:=rfl;rw[hpp,ae (by decide),ae (by rw[hcp];decide),ae hagB,ae (by rw[bM]at hl;omega)]
   obtain⟨m',a',f',r1,r2,r3,r4,r5⟩:=Ko kind t l m0 (a+1+(kc (gH p.id) p).size) (upd f p.id.toNat (f p.id.toNat+1)) (out++[p]) rest hd ha' (by omega) (fun q hq=>hc q (kV _ hq)) ((rZ kind f p l hag).2 ho) (by rw[List.length_append];simp at hl⊢;omega) (fun q hq=>hn q (kV _ hq));refine⟨m',a',f',?_,r2,r3,r4,fun k=>?_⟩
   ·rw[hstep,r1];simp
   ·rw[r5,lJ];unfold upd
    by_cases hk:k=p.id.toNat
    ·subst hk;simp;omega
    ·rw[ae hk,ae (fun x=>hk x.symm)];rfl
theorem LX{kind:Int}{t:ByteArray}{l:List Pr}(h:ls t=l.flatMap jI)(hok:okL kind l)(hl:l.length<=1000)(hn:∀p∈l,p.n<4294967296):fq kind t=(l,0):=by
 rw[yz]at hok;obtain⟨h1,h2,h3⟩:=hok;obtain⟨m',a',f',r1,r2,r3,r4,r5⟩:=Ko kind t l (t.size+1) 0 (fun _=>0) [] [] (by simpa using h) (by omega) (by omega) h1 h2 (by simpa using hl) hn;unfold fq;rw[r1];have hend:t.size<=a':=by
  have:=congrArg List.length r2;rw[bU,aN]at this;simp at this;omega
 obtain⟨m0,rfl⟩:∃m0,m'=m0+1:=⟨m'- 1,by omega⟩;rw[iy,if_pos hend];have hf:f'=fun k=>0+cnt k l:=funext r5;rw[hf,h3];simp
theorem oN(kind:Int)(t:ByteArray):∀(m a:Nat) (f:Nat->Nat) (out r:List Pr),a<=t.size->out.length<=1000->iy kind t m a f out=(r,0)->
  ∃l,r=out++l/\(ls t).drop a=l.flatMap jI/\ckL kind l/\oK kind f l/\jp (fun k=>f k+cnt k l)=false/\r.length<=1000
 | 0,a,f,out,r,_,_,h=>by simp[iy]at h
 | m+1,a,f,out,r,ha,hol,h=>by
   rw[iy]at h
   by_cases hend:t.size<=a
   ·rw[if_pos hend]at h;cases hlo:jp f
    ·rw[hlo]at h;simp at h;refine⟨[],by simp[h],?_,fun p hp=>by simp at hp,fun p hp=>by simp at hp,?_,by rw[<-h];exact hol⟩
     ·rw[gD (by rw[aN];exact hend)];rfl
     ·have:(fun k=>f k+cnt k [])=f:=by funext k;simp[cnt]
      rw[this];exact hlo
    ·rw[hlo]at h;simp at h
   ·rw[ae hend]at h;have hlt:a<t.size:=by omega
    have hd:=bQ (show a<(ls t).length by rw[aN];exact hlt);obtain⟨e1,_,e3⟩:=xd hd
    by_cases hh:ng (cr (fa t a)) kind=false
    ·rw[if_pos hh]at h;simp at h
    ·rw[ae hh]at h
     by_cases hv:(dW (cr (fa t a)).shape t (a+1)).err=0
     ·rw[ae (by simpa using hv)]at h;generalize hP:(⟨fa t a,(dW (cr (fa t a)).shape t (a+1)).n,(dW (cr (fa t a)).shape t (a+1)).text,(dW (cr (fa t a)).shape t (a+1)).value⟩:Pr)=P at h;have hPid:P.id=(fa t a:Int):=by rw[<-hP]
      by_cases hc:de (cr (fa t a)) kind P=0
      ·rw[ae (by simpa using hc)]at h
       by_cases hag:iC f kind (fa t a)=true
       ·rw[if_pos hag]at h;simp at h
       ·rw[ae hag]at h
        by_cases hfull:out.length=1000
        ·rw[if_pos hfull]at h;simp at h
        ·rw[ae hfull]at h;have hcP:de (cr P.id) kind P=0:=by rw[hPid];exact hc
         obtain⟨_,k1,k7,_⟩:=nr hcP;have hsh:gH P.id=(cr (fa t a)).shape:=by rw[hPid];rfl
         rw[hsh]at k1 k7;obtain⟨b1,b2⟩:=yY k1 k7 (show a+1<=t.size by omega) hv (fa t a);rw[hP,<-hsh]at b1 b2;have hat:=(xO (show a+1<=t.size by omega) (cr (fa t a)).shape).2;obtain⟨l,l1,l2,l3,l4,l5,l6⟩:=oN kind t m _ _ (out++[P]) r hat (by rw[List.length_append];simp;omega) h;have hidn:P.id.toNat=fa t a:=by rw[hPid];simp
         have hag':¬(1<=f P.id.toNat/\gS kind P.id.toNat=false):=fun x=>hag (by rw[hidn]at x;exact(kU _ _ _).2 x);rw[<-hidn]at l4 l5;refine⟨P :: l,by rw[l1];simp,?_,?_,(rZ kind f P l hag').1 l4,?_,l6⟩
         ·rw[hd,cF,e3]at*;rw[b1,hsh,l2,<-hsh];unfold jI;rw[hidn,e1];simp
         ·intro q hq;rcases ie.1 hq with rfl| hq
          ·exact hcP
          ·exact l3 q hq
         ·have:(fun k=>upd f P.id.toNat (f P.id.toNat+1) k+cnt k l)=fun k=>f k+cnt k (P :: l):=by
           funext k
           rw[lJ];unfold upd
           by_cases hk:k=P.id.toNat
           ·subst hk;simp;omega
           ·rw[ae hk,ae (fun x=>hk x.symm)];rfl
          rw[<-this];exact l5
      ·rw[if_pos (by simpa using hc)]at h;simp only[bG]at h;exact absurd h.2 hc
     ·rw[if_pos (by simpa using hv)]at h;simp only[bG]at h;exact absurd h.2 hv
theorem wU{kind:Int}{t:ByteArray}{l:List Pr}(h:fq kind t=(l,0)):ls t=l.flatMap jI/\okL kind l/\l.length<=1000:=by
 obtain⟨l',h1,h2,h3,h4,h5,h6⟩:=oN kind t _ 0 _ [] l (by omega) (by simp) h;simp at h1;subst h1;exact⟨by simpa using h2,(yz kind _).2 ⟨h3,h4,h5⟩,h6⟩
def aZ(kind:Int)(s:ByteArray):List Pr×Nat×Int:=
 if(bm (ls s)).2.2≠0 then([],0,(bm (ls s)).2.2)
 else if s.size<(bm (ls s)).2.1+(bm (ls s)).1 then([],0,3)
 else if(fq kind (s.extract (bm (ls s)).2.1 ((bm (ls s)).2.1+(bm (ls s)).1))).2≠0 then([],0,(fq kind (s.extract (bm (ls s)).2.1 ((bm (ls s)).2.1+(bm (ls s)).1))).2)
 else((fq kind (s.extract (bm (ls s)).2.1 ((bm (ls s)).2.1+(bm (ls s)).1))).1,(bm (ls s)).2.1+(bm (ls s)).1,0)
theorem Jb{kind:Int}{l:List Pr}(hok:(aM kind l).2=0)(hn:∀p∈l,p.n<4294967296){s:ByteArray}{rest:List UInt8}(hs:ls s=(aM kind l).1++rest):aZ kind s=(l,(aM kind l).1.length,0):=by
 obtain⟨h1,h2⟩:=(sx kind l).1 hok;have hb:=tE kind l hok;have hz:=(G6 kind l hok).1;rw[hb]at hs⊢;simp only at hs⊢;have hr:bm (ls s)=((l.flatMap jI).length,(eP (l.flatMap jI).length).length,0):=by
  rw[hs,List.append_assoc];exact wz _ (by omega) _
 have hlen:s.size=(eP (l.flatMap jI).length).length+(l.flatMap jI).length+rest.length:=by
  rw[<-aN,hs];simp only[List.length_append]
 unfold aZ;rw[hr];simp only;have hx:ls (s.extract (eP (l.flatMap jI).length).length ((eP (l.flatMap jI).length).length+(l.flatMap jI).length))=l.flatMap jI:=by
  rw[db,hs,List.append_assoc];simp
 rw[ae (by decide),ae (by omega),LX hx h2 h1 hn];simp
theorem fd{kind:Int}{s:ByteArray}{l:List Pr}{n:Nat}(h:aZ kind s=(l,n,0)):(aM kind l).2=0/\(aM kind l).1=(ls s).take n/\n<=s.size:=by
 unfold aZ at h;generalize hR:bm (ls s)=R at h;obtain⟨m,k,x⟩:=R;simp only at h
 by_cases hx:x=0
 ·subst hx;rw[ae (by decide)]at h
  by_cases hsz:s.size<k+m
  ·rw[if_pos hsz]at h;simp at h
  ·rw[ae hsz]at h
   by_cases hl:(fq kind (s.extract k (k+m))).2=0
   ·rw[ae (by simpa using hl)]at h;simp only[bG]at h;obtain⟨h1,h2,-⟩:=h;have he:fq kind (s.extract k (k+m))=(l,0):=Prod.ext h1 hl;obtain⟨b1,b2,b3⟩:=wU he;obtain⟨r1,r2,r3⟩:=mE hR;have hok:(aM kind l).2=0:=(sx kind l).2 ⟨b3,b2⟩;rw[db]at b1;have hm:(l.flatMap jI).length=m:=by
     rw[<-b1,cY,bU,aN];omega
    refine⟨hok,?_,by omega⟩;rw[tE kind l hok,hm];simp only;generalize (ls s).drop k=D at b1 r1;rw[r1,<-h2,r2,ot,bt (by omega),show(eP m).length+m- (eP m).length=m by omega,b1]
   ·rw[if_pos (by simpa using hl)]at h;simp only[bG]at h;exact absurd h.2.2 hl
 ·rw[if_pos (by simpa using hx)]at h;simp only[bG]at h;exact absurd h.2.2 hx
theorem DX(A:Option Addr)(n c:Nat)(x y:Int)(h:x=y):Ending.returned (.tuple #[.slice A n c,.int .i64 x,.int .i64 0])= .returned (.tuple #[.slice A n c,.int .i64 y,.int .i64 0]):=by rw[h]
def yQ(r:List Pr×Nat×Int)(w:World)(e:Ending)(w':World):Prop:=
 ∃A c,e= .returned (.tuple #[.slice A r.1.length c,.int .i64 r.2.1,.int .i64 r.2.2])/\r.1.length<=c/\Rd w' w'.heap.size 4 A r.1.length (prs r.1)/\Below w.heap.size w w'
theorem ll{r:List Pr×Nat×Int}{x:Int}{w w':World}(h:r=([],0,x))(hb:Below w.heap.size w w'):yQ r w (.returned (.tuple #[.slice none 0 0,.int .i64 0,.int .i64 x])) w':=by
 subst h;exact⟨none,0,rfl,ac _,Rd.nil _ _ _ _,hb⟩
theorem kl(kind:Int)(s:ByteArray)(w:World)(hs:s.size<=140737488351232):
  Calls prog 63 #[.int .i64 kind,.string s] w (yQ (aZ kind s) w):=by
 have hlt:=pT (ls s);have hsz:=jH (ls s);rw[aN]at hsz;have HV:=aa (nO s w (by omega));have HP:Hid (aZ kind s=if(bm (ls s)).2.2≠0 then([],0,(bm (ls s)).2.2)
  else if s.size<(bm (ls s)).2.1+(bm (ls s)).1 then([],0,3)
  else if(fq kind (s.extract (bm (ls s)).2.1 ((bm (ls s)).2.1+(bm (ls s)).1))).2≠0 then([],0,(fq kind (s.extract (bm (ls s)).2.1 ((bm (ls s)).2.1+(bm (ls s)).1))).2)
  else((fq kind (s.extract (bm (ls s)).2.1 ((bm (ls s)).2.1+(bm (ls s)).1))).1,(bm (ls s)).2.1+(bm (ls s)).1,0)):=aa rfl
 generalize bm (ls s)=R at*;obtain⟨n,k,x⟩:=R;simp only at hlt hsz HP HV;have HS:=aa hs
 by_cases hx:x=0
 ·subst hx
  by_cases hlen:s.size<k+n
  ·have HX:Hid (aZ kind s=([],0,3)):=aa (by rw[HP.o,ae (by decide),if_pos hlen]);have d1:(s.size:Int) - (k:Int)<(n:Int):=by omega
   clear hlen HP;go_enter func63,ntmps63
   go_wp2_with fail
   refine HV.o.mono ?_;rintro e w1 ⟨rfl,hb⟩;have HB:=aa hb;clear hb
   go_wp2;go_ret3;exact ll HX.o HB.o
  ·have HX:Hid (aZ kind s=if(fq kind (s.extract k (k+n))).2≠0 then([],0,(fq kind (s.extract k (k+n))).2)else((fq kind (s.extract k (k+n))).1,k+n,0)):=aa (by rw[HP.o,ae (by decide),ae hlen]);have d1:(n:Int)<=(s.size:Int) - (k:Int):=by omega
   have d2:(k:Int)+(n:Int)<=(s.size:Int):=by omega
   have d3:(k:Int)<=(k:Int)+(n:Int):=by omega
   have d4:(0:Int)<=(k:Int):=by omega
   have d5:k+n<=s.size:=by omega
   clear hlen HP;go_enter func63,ntmps63
   go_wp2_with fail
   refine HV.o.mono ?_;rintro e w1 ⟨rfl,hb⟩;have HB:=aa hb;clear hb
   go_wp2_with fail
   refine(Cs kind (s.extract k (k+n)) _ (by rw[aj];have:=HS.o;omega)).mono ?_;rintro e w2 ⟨A,c,rfl,hc,hrd,hb⟩;generalize fq kind (s.extract k (k+n))=L at*;obtain⟨l,y⟩:=L;simp only at HX hrd hc;have HRD:=aa hrd;have HC:=aa hc;have HB2:=aa (HB.o.trans (hb.mono HB.o.size));clear hrd hc hb
   by_cases hy:y=0
   ·subst hy;have HY:Hid (aZ kind s=(l,k+n,0)):=aa (by rw[HX.o,ae (by decide)]);go_wp2;go_ret3;rw[HY.o];exact⟨A,c,DX A l.length c _ _ (by simp),HC.o,HRD.o,HB2.o⟩
   ·have e0:(y !=0)=true:=aA.2 hy;have HY:Hid (aZ kind s=([],0,y)):=aa (by rw[HX.o,if_pos hy]);clear hy;go_wp2;go_ret3;exact ll HY.o HB2.o
 ·have HX:Hid (aZ kind s=([],0,x)):=aa (by rw[HP.o,if_pos hx]);have e0:(x !=0)=true:=aA.2 hx;clear hx HP;go_enter func63,ntmps63
  go_wp2_with fail
  refine HV.o.mono ?_;rintro e w1 ⟨rfl,hb⟩;have HB:=aa hb;clear hb
  go_wp2;go_ret3;exact ll HX.o HB.o
theorem oM(kind:Int)(t:ByteArray)(ht:t.size<=140737488351232):∀(m a:Nat) (f:Nat->Nat) (out:List Pr),(∀p∈out,ea p)->∀p∈(iy kind t m a f out).1,ea p
 | 0,a,f,out,_=>by simp[iy]
 | m+1,a,f,out,ho=>by
   rw[iy];split
   ·split
    ·simp
    ·exact ho
   ·split
    ·simp
    ·split
     ·simp
     ·split
      ·simp
      ·split
       ·simp
       ·split
        ·simp
        ·apply oM kind t ht;intro p hp;rcases cj.1 hp with hp| hp
         ·exact ho p hp
         ·rw[gA.1 hp];exact xN ht _
theorem iT{kind:Int}{s:ByteArray}(hs:s.size<=140737488351232):∀p∈(aZ kind s).1,ea p:=by
 have h:∀x:ByteArray,x.size<=140737488351232->∀p∈(fq kind x).1,ea p:=fun x hx=>oM kind x hx _ _ _ _ (by simp);unfold aZ;split
 ·simp
 ·split
  ·simp
  ·split
   ·simp
   ·exact h _ (by rw[aj];omega)
theorem fZ{kind:Int}{s:ByteArray}(h:(aZ kind s).2.2≠0):aZ kind s=([],0,(aZ kind s).2.2):=by
 unfold aZ at h⊢;split
 ·rfl
 ·split
  ·rfl
  ·split
   ·rfl
   ·rename_i h1 h2 h3;rw[ae h1,ae h2,ae h3]at h;exact absurd rfl h
theorem kj{kind:Int}{s:ByteArray}(h:(aZ kind s).2.2=0):(aZ kind s).1.length<=1000:=by
 have hb:=(fd (kind:=kind) (s:=s) (l:=(aZ kind s).1) (n:=(aZ kind s).2.1) (by rw[<-h])).1;exact((sx kind _).1 hb).1
theorem fe(a b:ByteArray):ls (a++b)=ls a++ls b:=by unfold ls;rw[ByteArray.data_append];simp
end Go.Proofs.YtbdgkkmbnahgiaaGreatDoor
