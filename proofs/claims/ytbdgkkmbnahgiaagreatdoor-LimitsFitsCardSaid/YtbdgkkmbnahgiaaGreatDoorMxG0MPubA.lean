/- A part of what the laws stand on: MPubA. -/
import Derived.Test.YtbdgkkmbnahgiaaGreatDoorMxG0MAck
import Derived.Test.YtbdgkkmbnahgiaaGreatDoorMxG0MLis
set_option maxRecDepth 10000
set_option maxHeartbeats 8000000
namespace Go.Proofs.YtbdgkkmbnahgiaaGreatDoor
open Go.RowKit Go.Proofs.Tryz
section
attribute [local go_sem ↓] bD bF bH bI bu
attribute [local go_sem] bc aD bh bg bK bJ bd aY be aO ax cI dC dB dt dj di dA dr dp dn bW co bO bZ bX cz cy cw cu ct cC cn bS bP bR
theorem kR(s:ByteArray):s.toList.isEmpty=decide (s.size=0):=by
 cases hz:s.toList.isEmpty
 ·exact(ah (fun x=>by
   have:s=⟨#[]⟩:=eX (by rw[show ls (⟨#[]⟩:ByteArray)=[]from rfl];exact aF (by rw[aN];exact x));rw[this]at hz;exact absurd hz (by decide+kernel))).symm
 ·exact(au (mL hz)).symm
def ba(v:Int):Bool:=decide (v=4\/v=5)
def dS(v k:Int):Bool:=decide (1<=k/\(k<=14\/(k=15/\v=5)))
def gg(k:Int):Int:=if k=6\/k=8\/k=10 then 2 else 0
def ke(p:Pk):Int:=2*p.qos+(if p.retain=true then 1 else 0)+(if p.dup=true then 8 else 0)
def tJ(p:Pk):Bool:=decide (p.qos<0\/2<p.qos\/(p.qos=0/\p.dup=true))
def eM(v:Int)(p:Pk):Int×Int:=
 if ba v=false then(0,2)else if dS v p.kind=false then(0,8)else if p.kind≠3 then(gg p.kind,0)else if tJ p=true then(0,7)else(ke p,0)
theorem j9(v:Int)(w:World):Calls prog 126 #[.int .i64 v] w fun e w'=>e= .returned (.bool (ba v))/\w=w':=by
 go_enter func126,ntmps126;go_wp2
 all_goals
  go_ret;refine⟨eT ?_,rfl⟩;unfold ba
  by_cases h4:v=4<;>by_cases h5:v=5<;>simp_all
theorem mZ(v:Int)(w:World):Calls prog 278 #[.int .i64 v] w fun e w'=>e= .returned (.bool (ba v))/\w=w':=by
 go_enter func278,ntmps278;go_wp2
 all_goals
  go_ret;refine⟨eT ?_,rfl⟩;unfold ba
  by_cases h4:v=4<;>by_cases h5:v=5<;>simp_all
theorem jC(b:Bool)(x:Int)(w:World):Calls prog 336 #[.bool b,.int .i64 x] w fun e w'=>e= .returned (.int .i64 (if b=true then x else 0))/\w=w':=by
 cases b
 all_goals
  go_enter func336,ntmps336;go_wp2;go_ret;exact⟨rfl,rfl⟩
theorem lD(v k:Int)(w:World):Calls prog 127 #[.int .i64 v,.int .i64 k] w fun e w'=>e= .returned (.bool (dS v k))/\w=w':=by
 by_cases h5:v=5
 ·have e5:(v==5)=true:=aK.2 h5;have HE:Hid (dS v k=(decide (1<=k)&&decide (k<=15))):=aa (by unfold dS;rw[<-Ij];exact eb.2 (by omega));clear h5;go_enter func127,ntmps127;go_wp2
  all_goals
   go_ret;refine⟨eT ?_,rfl⟩;rw[HE.o]
   by_cases a:1<=k<;>by_cases b:k<=15<;>by_cases c:k<=14<;>simp_all<;>omega
 ·have e5:(v==5)=false:=ar.2 h5;have HE:Hid (dS v k=(decide (1<=k)&&decide (k<=14))):=aa (by unfold dS;rw[<-Ij];exact eb.2 (by omega));clear h5;go_enter func127,ntmps127;go_wp2
  all_goals
   go_ret;refine⟨eT ?_,rfl⟩;rw[HE.o]
   by_cases a:1<=k<;>by_cases b:k<=15<;>by_cases c:k<=14<;>simp_all<;>omega
theorem oS(k:Int)(w:World):Calls prog 128 #[.int .i64 k] w fun e w'=>e= .returned (.int .i64 (gg k))/\w=w':=by
 have HE:Hid (gg k=if k=6\/k=8\/k=10 then 2 else 0):=aa rfl;go_enter func128,ntmps128;go_wp2
 all_goals
  go_ret;refine⟨?_,rfl⟩;rw[HE.o]
  simp_all
theorem BR:bits BinOp.or IntKind.i64 0 1=1/\bits BinOp.or IntKind.i64 2 1=3/\bits BinOp.or IntKind.i64 4 1=5/\bits BinOp.or IntKind.i64 0 8=8/\bits BinOp.or IntKind.i64 1 8=9/\bits BinOp.or IntKind.i64 2 8=10/\bits BinOp.or IntKind.i64 3 8=11/\bits BinOp.or IntKind.i64 4 8=12/\bits BinOp.or IntKind.i64 5 8=13:=by decide+kernel
theorem vp(v:Int)(p:Pk)(h:Hs)(w:World):
  Calls prog 81 #[.int .i64 v,pkV p h] w fun e w'=>e= .returned (.tuple #[.int .i64 (eM v p).1,.int .i64 (eM v p).2])/\Below w.heap.size w w':=by
 have HB:=aa ((aq w.heap.size w).alloc (ac _) (.cells (pkC p h) PkT));have k1:=fun j=>(Bk.fresh w PkT (pkC p h)).cell j;have HE:Hid (eM v p=if ba v=false then(0,2)else if dS v p.kind=false then(0,8)else if p.kind≠3 then(gg p.kind,0)else if tJ p=true then(0,7)else(ke p,0)):=aa rfl;go_enter func81,ntmps81
 go_wp2_with fail
 refine(j9 v _).mono ?_;rintro e w1 ⟨rfl,rfl⟩;cases hk:ba v
 ·have HX:Hid (eM v p=(0,2)):=aa (by rw[HE.o,if_pos hk]);clear hk;go_wp2;go_ret2;exact⟨by rw[HX.o];rfl,HB.o⟩
 have HE1:Hid (eM v p=if dS v p.kind=false then(0,8)else if p.kind≠3 then(gg p.kind,0)else if tJ p=true then(0,7)else(ke p,0)):=aa (by rw[HE.o,ae (fun x=>by rw[hk]at x;cases x)]);clear hk HE
 go_wp2_with fail
 refine(lD v p.kind _).mono ?_;rintro e w1 ⟨rfl,rfl⟩;cases hk:dS v p.kind
 ·have HX:Hid (eM v p=(0,8)):=aa (by rw[HE1.o,if_pos hk]);clear hk;go_wp2;go_ret2;exact⟨by rw[HX.o];rfl,HB.o⟩
 have HE2:Hid (eM v p=if p.kind≠3 then(gg p.kind,0)else if tJ p=true then(0,7)else(ke p,0)):=aa (by rw[HE1.o,ae (fun x=>by rw[hk]at x;cases x)]);clear hk HE1
 by_cases h3:p.kind=3
 rotate_left
 ·have HX:Hid (eM v p=(gg p.kind,0)):=aa (by rw[HE2.o,if_pos h3]);have e3:(p.kind !=3)=true:=aA.2 h3;clear h3
  go_wp2_with fail
  refine(oS p.kind _).mono ?_;rintro e w1 ⟨rfl,rfl⟩;go_wp2;go_ret2;exact⟨by rw[HX.o];rfl,HB.o⟩
 have HE3:Hid (eM v p=if tJ p=true then(0,7)else(ke p,0)):=aa (by rw[HE2.o,ae (fun x=>x h3)]);have e3:(p.kind !=3)=false:=by simpa using h3
 clear h3 HE2;have k1a:(w.alloc (.cells (pkC p h) PkT)).cell? ⟨w.heap.size,3,none⟩=some (.int .i64 p.qos):=(Bk.fresh w PkT (pkC p h)).cell 3;have k1b:(w.alloc (.cells (pkC p h) PkT)).cell? ⟨w.heap.size,1,none⟩=some (.bool p.dup):=(Bk.fresh w PkT (pkC p h)).cell 1;have k1c:(w.alloc (.cells (pkC p h) PkT)).cell? ⟨w.heap.size,2,none⟩=some (.bool p.retain):=(Bk.fresh w PkT (pkC p h)).cell 2;have k1d:(w.alloc (.cells (pkC p h) PkT)).cell? ⟨w.heap.size,0,none⟩=some (.int .i64 p.kind):=(Bk.fresh w PkT (pkC p h)).cell 0;have HBQ:Hid (tJ p=decide (p.qos<0\/2<p.qos\/(p.qos=0/\p.dup=true))):=aa rfl;have HFP:Hid (ke p=2*p.qos+(if p.retain=true then 1 else 0)+(if p.dup=true then 8 else 0)):=aa rfl;clear k1;generalize p.qos=q at*;generalize p.dup=d at*;generalize p.retain=r at*
 by_cases h0:q<0
 ·have HX:Hid (eM v p=(0,7)):=aa (by rw[HE3.o,if_pos (by rw[HBQ.o];exact au (.inl h0))]);go_wp2;go_ret2;exact⟨by rw[HX.o];rfl,HB.o⟩
 have d0:decide (q<0)=false:=ah h0
 by_cases h2:2<q
 ·have HX:Hid (eM v p=(0,7)):=aa (by rw[HE3.o,if_pos (by rw[HBQ.o];exact au (.inr (.inl h2)))]);have d0':0<=q:=by omega
  clear h0;go_wp2;go_ret2;exact⟨by rw[HX.o];rfl,HB.o⟩
 obtain⟨b1,b2,b3,b4,b5,b6,b7,b8,b9⟩:=BR;clear d0;obtain rfl| rfl| rfl:q=0\/q=1\/q=2:=by omega
 all_goals cases d<;>cases r
 all_goals
  first
  | (have HX:Hid (eM v p=(0,7)):=aa (by rw[HE3.o,if_pos (by rw[HBQ.o];decide)])
     clear h0 h2;go_wp2;go_ret2;exact⟨by rw[HX.o];rfl,HB.o⟩)
  | (have HX:Hid (eM v p=(ke p,0)):=aa (by rw[HE3.o,ae (by rw[HBQ.o];decide)])
     clear h0 h2;go_wp2;go_ret2;exact⟨by rw[HX.o,HFP.o];rfl,HB.o⟩)
end
section
def stF(t:TypeId)(a v:Value):Sem Unit:=Instr.storeAt t a v
theorem wh(t:TypeId)(a v:Value):Instr.storeAt t a v=stF t a v:=rfl
theorem DR{P:Program}{w:World}{g i:Nat}{t:TypeId}{v:Value}(hi:(P.info? t).map (·.size)=some 1)(hv:v.cells= #[v])(h1:v.oneCell'=true)(ht:w.there g i 1):(stF t (.pointer (some ⟨g,i,none⟩)) v).run P w= .ok () (w.setCell ⟨g,i,none⟩ v):=by
 have e:Instr.storeAt t (.pointer (some ⟨g,i,none⟩)) v=Instr.storeAt t (.pointer (some ⟨g,i,none⟩)) (.agg #[v]):=by
  unfold Instr.storeAt storeVar;rw[hv];rfl
 unfold stF;rw[e,run_storeAt_mid w g i t #[v] ht hi (by simpa using h1)];rfl
def pw(W:World)(g:Nat)(cs:Array Value):World:={W with heap:=W.heap.setIfInBounds g (.cells cs PkT (0,0))}
section
variable (W:World) (g:Nat) (cs:Array Value)
theorem DZ:(pw W g cs).heap.size=W.heap.size:=by simp[pw]
theorem uJ(hg:g<W.heap.size):Bk (pw W g cs) g PkT cs:=by
 unfold Bk pw;simp[hg]
theorem D7(hb:Bk W g PkT cs):pw W g cs=W:=by
 have hh:W.heap.setIfInBounds g (.cells cs PkT (0,0))=W.heap:=by
  apply Il;intro k
  by_cases hk:k=g
  ·subst hk;have:=hb;unfold Bk at this;rw[this];simp[hb.lt]
  ·rw[eK (fun e=>hk e.symm)]
 unfold pw;rw[hh]
theorem uv{k:Nat}(hk:k≠g):(pw W g cs).heap[k]? =W.heap[k]? :=by
 unfold pw;exact eK (fun e=>hk e.symm)
theorem BA:W.grownBy (pw W g cs) (some g):=⟨rfl,rfl,rfl,by rw[DZ];exact ac _,fun k _ hk=>uv W g cs (fun e=>hk (by rw[e]))⟩
theorem BC{w:World}(h:Below w.heap.size w W)(hg:w.heap.size<=g):Below w.heap.size w (pw W g cs):=dw h (BA W g cs) h.size hg
theorem Bz(i:Nat)(u:Value)(hg:g<W.heap.size):(pw W g cs).setCell ⟨g,i,none⟩ u=pw W g (cs.setIfInBounds i u):=by
 have hh:(W.heap.setIfInBounds g (.cells cs PkT (0,0))).modify g (fun
   | .cells c elem frozen=>.cells (if(none:Option Unit).isSome then c else c.setIfInBounds i u) elem frozen
   | o=>o)=W.heap.setIfInBounds g (.cells (cs.setIfInBounds i u) PkT (0,0)):=by
  apply Il;intro k;rw[Array.getElem?_modify]
  by_cases hk:g=k
  ·subst hk;simp[hg]
  ·rw[ae hk,eK hk,eK hk]
 unfold World.setCell pw;exact congrArg (fun x=>{W with heap:=x}) hh
theorem uu(i k:Nat)(hg:g<W.heap.size)(hi:i+k<=cs.size):(pw W g cs).there g i k:=fun j hj=>by
 rw[(uJ W g cs hg).cell,(uJ W g cs hg).free];refine⟨?_,rfl⟩;rw[eL (by omega)];rfl
theorem cN{P:Program}{t:TypeId}{v:Value}{i:Nat}{ds:Array Value}(hi:(P.info? t).map (·.size)=some 1)(hv:v.cells= #[v])(h1:v.oneCell'=true)(hlt:i<cs.size)(he:cs.setIfInBounds i v=ds)(hg:g<W.heap.size):
  (stF t (.pointer (some ⟨g,i,none⟩)) v).run P (pw W g cs)= .ok () (pw W g ds):=by
 subst he;rw[DR hi hv h1 (uu W g cs i 1 hg (by omega)),Bz W g cs i v hg]
theorem Cv(p:Pk)(h:Hs)(hg:g<W.heap.size):(kZ (.pointer (some ⟨g,0,none⟩))).run prog (pw W g (pkC p h))= .ok (pkV p h) (pw W g (pkC p h)):=cf (uJ W g (pkC p h) hg)
theorem BD(p:Pk)(h:Hs)(hg:g<W.heap.size)(i:Nat):(pw W g (pkC p h)).cell? ⟨g,i,none⟩=(pkC p h)[i]? :=(uJ W g (pkC p h) hg).cell i
end
theorem od:(prog.info? 3).map (·.size)=some 1:=by kernel_rfl
theorem lB:(prog.info? 4).map (·.size)=some 1:=by kernel_rfl
theorem mI:(prog.info? 9).map (·.size)=some 1:=by kernel_rfl
theorem yE:(prog.info? 26).map (·.size)=some 1:=by kernel_rfl
theorem yD:(prog.info? 27).map (·.size)=some 1:=by kernel_rfl
theorem tl:(prog.info? 23).map (·.size)=some 1:=by kernel_rfl
section
variable (W:World) (g:Nat) (p:Pk) (h:Hs)
theorem ta(x:Int)(hg:g<W.heap.size):(stF 3 (.pointer (some ⟨g,0,none⟩)) (.int .i64 x)).run prog (pw W g (pkC p h))= .ok () (pw W g (pkC {p with kind:=x} h)):=cN W g _ od rfl rfl (by rw[bo];decide) rfl hg
theorem yp(x:Int)(hg:g<W.heap.size):(stF 3 (.pointer (some ⟨g,0,none⟩)) (.int .i64 x)).run prog (pw W g (pkC p h)).drew= .ok () (pw W g (pkC {p with kind:=x} h)).drew:=ta W.drew g p h x hg
theorem s9(x:Bool)(hg:g<W.heap.size):(stF 4 (.pointer (some ⟨g,1,none⟩)) (.bool x)).run prog (pw W g (pkC p h))= .ok () (pw W g (pkC {p with dup:=x} h)):=cN W g _ lB rfl rfl (by rw[bo];decide) rfl hg
theorem yo(x:Bool)(hg:g<W.heap.size):(stF 4 (.pointer (some ⟨g,1,none⟩)) (.bool x)).run prog (pw W g (pkC p h)).drew= .ok () (pw W g (pkC {p with dup:=x} h)).drew:=s9 W.drew g p h x hg
theorem sZ(x:Bool)(hg:g<W.heap.size):(stF 4 (.pointer (some ⟨g,2,none⟩)) (.bool x)).run prog (pw W g (pkC p h))= .ok () (pw W g (pkC {p with retain:=x} h)):=cN W g _ lB rfl rfl (by rw[bo];decide) rfl hg
theorem yn(x:Bool)(hg:g<W.heap.size):(stF 4 (.pointer (some ⟨g,2,none⟩)) (.bool x)).run prog (pw W g (pkC p h)).drew= .ok () (pw W g (pkC {p with retain:=x} h)).drew:=sZ W.drew g p h x hg
theorem sV(x:Int)(hg:g<W.heap.size):(stF 3 (.pointer (some ⟨g,3,none⟩)) (.int .i64 x)).run prog (pw W g (pkC p h))= .ok () (pw W g (pkC {p with qos:=x} h)):=cN W g _ od rfl rfl (by rw[bo];decide) rfl hg
theorem ym(x:Int)(hg:g<W.heap.size):(stF 3 (.pointer (some ⟨g,3,none⟩)) (.int .i64 x)).run prog (pw W g (pkC p h)).drew= .ok () (pw W g (pkC {p with qos:=x} h)).drew:=sV W.drew g p h x hg
theorem sU(x:Int)(hg:g<W.heap.size):(stF 3 (.pointer (some ⟨g,4,none⟩)) (.int .i64 x)).run prog (pw W g (pkC p h))= .ok () (pw W g (pkC {p with id:=x} h)):=cN W g _ od rfl rfl (by rw[bo];decide) rfl hg
theorem yl(x:Int)(hg:g<W.heap.size):(stF 3 (.pointer (some ⟨g,4,none⟩)) (.int .i64 x)).run prog (pw W g (pkC p h)).drew= .ok () (pw W g (pkC {p with id:=x} h)).drew:=sU W.drew g p h x hg
theorem sT(x:ByteArray)(hg:g<W.heap.size):(stF 9 (.pointer (some ⟨g,5,none⟩)) (.string x)).run prog (pw W g (pkC p h))= .ok () (pw W g (pkC {p with topic:=x} h)):=cN W g _ mI rfl rfl (by rw[bo];decide) rfl hg
theorem yk(x:ByteArray)(hg:g<W.heap.size):(stF 9 (.pointer (some ⟨g,5,none⟩)) (.string x)).run prog (pw W g (pkC p h)).drew= .ok () (pw W g (pkC {p with topic:=x} h)).drew:=sT W.drew g p h x hg
theorem sS(x:ByteArray)(hg:g<W.heap.size):(stF 9 (.pointer (some ⟨g,6,none⟩)) (.string x)).run prog (pw W g (pkC p h))= .ok () (pw W g (pkC {p with payload:=x} h)):=cN W g _ mI rfl rfl (by rw[bo];decide) rfl hg
theorem yj(x:ByteArray)(hg:g<W.heap.size):(stF 9 (.pointer (some ⟨g,6,none⟩)) (.string x)).run prog (pw W g (pkC p h)).drew= .ok () (pw W g (pkC {p with payload:=x} h)).drew:=sS W.drew g p h x hg
theorem sR(x:Bool)(hg:g<W.heap.size):(stF 4 (.pointer (some ⟨g,7,none⟩)) (.bool x)).run prog (pw W g (pkC p h))= .ok () (pw W g (pkC {p with clean:=x} h)):=cN W g _ lB rfl rfl (by rw[bo];decide) rfl hg
theorem yi(x:Bool)(hg:g<W.heap.size):(stF 4 (.pointer (some ⟨g,7,none⟩)) (.bool x)).run prog (pw W g (pkC p h)).drew= .ok () (pw W g (pkC {p with clean:=x} h)).drew:=sR W.drew g p h x hg
theorem sQ(x:Int)(hg:g<W.heap.size):(stF 3 (.pointer (some ⟨g,8,none⟩)) (.int .i64 x)).run prog (pw W g (pkC p h))= .ok () (pw W g (pkC {p with alive:=x} h)):=cN W g _ od rfl rfl (by rw[bo];decide) rfl hg
theorem yh(x:Int)(hg:g<W.heap.size):(stF 3 (.pointer (some ⟨g,8,none⟩)) (.int .i64 x)).run prog (pw W g (pkC p h)).drew= .ok () (pw W g (pkC {p with alive:=x} h)).drew:=sQ W.drew g p h x hg
theorem sP(x:ByteArray)(hg:g<W.heap.size):(stF 9 (.pointer (some ⟨g,9,none⟩)) (.string x)).run prog (pw W g (pkC p h))= .ok () (pw W g (pkC {p with client:=x} h)):=cN W g _ mI rfl rfl (by rw[bo];decide) rfl hg
theorem yg(x:ByteArray)(hg:g<W.heap.size):(stF 9 (.pointer (some ⟨g,9,none⟩)) (.string x)).run prog (pw W g (pkC p h)).drew= .ok () (pw W g (pkC {p with client:=x} h)).drew:=sP W.drew g p h x hg
theorem pC(x:Bool)(hg:g<W.heap.size):(stF 4 (.pointer (some ⟨g,10,none⟩)) (.bool x)).run prog (pw W g (pkC p h))= .ok () (pw W g (pkC {p with hasUser:=x} h)):=cN W g _ lB rfl rfl (by rw[bo];decide) rfl hg
theorem uI(x:Bool)(hg:g<W.heap.size):(stF 4 (.pointer (some ⟨g,10,none⟩)) (.bool x)).run prog (pw W g (pkC p h)).drew= .ok () (pw W g (pkC {p with hasUser:=x} h)).drew:=pC W.drew g p h x hg
theorem pB(x:ByteArray)(hg:g<W.heap.size):(stF 9 (.pointer (some ⟨g,11,none⟩)) (.string x)).run prog (pw W g (pkC p h))= .ok () (pw W g (pkC {p with user:=x} h)):=cN W g _ mI rfl rfl (by rw[bo];decide) rfl hg
theorem uH(x:ByteArray)(hg:g<W.heap.size):(stF 9 (.pointer (some ⟨g,11,none⟩)) (.string x)).run prog (pw W g (pkC p h)).drew= .ok () (pw W g (pkC {p with user:=x} h)).drew:=pB W.drew g p h x hg
theorem pA(x:Bool)(hg:g<W.heap.size):(stF 4 (.pointer (some ⟨g,12,none⟩)) (.bool x)).run prog (pw W g (pkC p h))= .ok () (pw W g (pkC {p with hasPass:=x} h)):=cN W g _ lB rfl rfl (by rw[bo];decide) rfl hg
theorem uG(x:Bool)(hg:g<W.heap.size):(stF 4 (.pointer (some ⟨g,12,none⟩)) (.bool x)).run prog (pw W g (pkC p h)).drew= .ok () (pw W g (pkC {p with hasPass:=x} h)).drew:=pA W.drew g p h x hg
theorem py(x:ByteArray)(hg:g<W.heap.size):(stF 9 (.pointer (some ⟨g,13,none⟩)) (.string x)).run prog (pw W g (pkC p h))= .ok () (pw W g (pkC {p with pass:=x} h)):=cN W g _ mI rfl rfl (by rw[bo];decide) rfl hg
theorem uF(x:ByteArray)(hg:g<W.heap.size):(stF 9 (.pointer (some ⟨g,13,none⟩)) (.string x)).run prog (pw W g (pkC p h)).drew= .ok () (pw W g (pkC {p with pass:=x} h)).drew:=py W.drew g p h x hg
theorem pu(x:Bool)(hg:g<W.heap.size):(stF 4 (.pointer (some ⟨g,14,none⟩)) (.bool x)).run prog (pw W g (pkC p h))= .ok () (pw W g (pkC {p with hasWill:=x} h)):=cN W g _ lB rfl rfl (by rw[bo];decide) rfl hg
theorem uE(x:Bool)(hg:g<W.heap.size):(stF 4 (.pointer (some ⟨g,14,none⟩)) (.bool x)).run prog (pw W g (pkC p h)).drew= .ok () (pw W g (pkC {p with hasWill:=x} h)).drew:=pu W.drew g p h x hg
theorem pr(x:ByteArray)(hg:g<W.heap.size):(stF 9 (.pointer (some ⟨g,15,none⟩)) (.string x)).run prog (pw W g (pkC p h))= .ok () (pw W g (pkC {p with will:={p.will with topic:=x}} h)):=cN W g _ mI rfl rfl (by rw[bo];decide) rfl hg
theorem uC(x:ByteArray)(hg:g<W.heap.size):(stF 9 (.pointer (some ⟨g,15,none⟩)) (.string x)).run prog (pw W g (pkC p h)).drew= .ok () (pw W g (pkC {p with will:={p.will with topic:=x}} h)).drew:=pr W.drew g p h x hg
theorem pq(x:ByteArray)(hg:g<W.heap.size):(stF 9 (.pointer (some ⟨g,16,none⟩)) (.string x)).run prog (pw W g (pkC p h))= .ok () (pw W g (pkC {p with will:={p.will with payload:=x}} h)):=cN W g _ mI rfl rfl (by rw[bo];decide) rfl hg
theorem uB(x:ByteArray)(hg:g<W.heap.size):(stF 9 (.pointer (some ⟨g,16,none⟩)) (.string x)).run prog (pw W g (pkC p h)).drew= .ok () (pw W g (pkC {p with will:={p.will with payload:=x}} h)).drew:=pq W.drew g p h x hg
theorem pp(x:Int)(hg:g<W.heap.size):(stF 3 (.pointer (some ⟨g,17,none⟩)) (.int .i64 x)).run prog (pw W g (pkC p h))= .ok () (pw W g (pkC {p with will:={p.will with qos:=x}} h)):=cN W g _ od rfl rfl (by rw[bo];decide) rfl hg
theorem uA(x:Int)(hg:g<W.heap.size):(stF 3 (.pointer (some ⟨g,17,none⟩)) (.int .i64 x)).run prog (pw W g (pkC p h)).drew= .ok () (pw W g (pkC {p with will:={p.will with qos:=x}} h)).drew:=pp W.drew g p h x hg
theorem po(x:Bool)(hg:g<W.heap.size):(stF 4 (.pointer (some ⟨g,18,none⟩)) (.bool x)).run prog (pw W g (pkC p h))= .ok () (pw W g (pkC {p with will:={p.will with retain:=x}} h)):=cN W g _ lB rfl rfl (by rw[bo];decide) rfl hg
theorem uz(x:Bool)(hg:g<W.heap.size):(stF 4 (.pointer (some ⟨g,18,none⟩)) (.bool x)).run prog (pw W g (pkC p h)).drew= .ok () (pw W g (pkC {p with will:={p.will with retain:=x}} h)).drew:=po W.drew g p h x hg
theorem pm(x:Bool)(hg:g<W.heap.size):(stF 4 (.pointer (some ⟨g,20,none⟩)) (.bool x)).run prog (pw W g (pkC p h))= .ok () (pw W g (pkC {p with session:=x} h)):=cN W g _ lB rfl rfl (by rw[bo];decide) rfl hg
theorem uy(x:Bool)(hg:g<W.heap.size):(stF 4 (.pointer (some ⟨g,20,none⟩)) (.bool x)).run prog (pw W g (pkC p h)).drew= .ok () (pw W g (pkC {p with session:=x} h)).drew:=pm W.drew g p h x hg
theorem pj(x:Int)(hg:g<W.heap.size):(stF 3 (.pointer (some ⟨g,21,none⟩)) (.int .i64 x)).run prog (pw W g (pkC p h))= .ok () (pw W g (pkC {p with code:=x} h)):=cN W g _ od rfl rfl (by rw[bo];decide) rfl hg
theorem ux(x:Int)(hg:g<W.heap.size):(stF 3 (.pointer (some ⟨g,21,none⟩)) (.int .i64 x)).run prog (pw W g (pkC p h)).drew= .ok () (pw W g (pkC {p with code:=x} h)).drew:=pj W.drew g p h x hg
theorem sY(l:List Int)(A:Option Addr)(n:Nat)(hg:g<W.heap.size):(stF 26 (.pointer (some ⟨g,22,none⟩)) (.slice A l.length n)).run prog (pw W g (pkC p h))= .ok () (pw W g (pkC {p with codes:=l} {h with codes:=⟨A,n⟩})):=cN W g _ yE rfl rfl (by rw[bo];decide) rfl hg
theorem pX(hg:g<W.heap.size):(stF 26 (.pointer (some ⟨g,22,none⟩)) (.slice none 0 0)).run prog (pw W g (pkC p h))= .ok () (pw W g (pkC {p with codes:=[]} {h with codes:=hd0})):=cN W g _ yE rfl rfl (by rw[bo];decide) rfl hg
theorem sX(l:List Fi)(A:Option Addr)(n:Nat)(hg:g<W.heap.size):(stF 27 (.pointer (some ⟨g,23,none⟩)) (.slice A l.length n)).run prog (pw W g (pkC p h))= .ok () (pw W g (pkC {p with filters:=l} {h with filters:=⟨A,n⟩})):=cN W g _ yD rfl rfl (by rw[bo];decide) rfl hg
theorem pW(hg:g<W.heap.size):(stF 27 (.pointer (some ⟨g,23,none⟩)) (.slice none 0 0)).run prog (pw W g (pkC p h))= .ok () (pw W g (pkC {p with filters:=[]} {h with filters:=hd0})):=cN W g _ yD rfl rfl (by rw[bo];decide) rfl hg
theorem sW(l:List Pr)(A:Option Addr)(n:Nat)(hg:g<W.heap.size):(stF 23 (.pointer (some ⟨g,24,none⟩)) (.slice A l.length n)).run prog (pw W g (pkC p h))= .ok () (pw W g (pkC {p with props:=l} {h with props:=⟨A,n⟩})):=cN W g _ tl rfl rfl (by rw[bo];decide) rfl hg
theorem pV(hg:g<W.heap.size):(stF 23 (.pointer (some ⟨g,24,none⟩)) (.slice none 0 0)).run prog (pw W g (pkC p h))= .ok () (pw W g (pkC {p with props:=[]} {h with props:=hd0})):=cN W g _ tl rfl rfl (by rw[bo];decide) rfl hg
theorem sO(l:List Pr)(A:Option Addr)(n:Nat)(hg:g<W.heap.size):(stF 23 (.pointer (some ⟨g,19,none⟩)) (.slice A l.length n)).run prog (pw W g (pkC p h))= .ok () (pw W g (pkC {p with will:={p.will with props:=l}} {h with wp:=⟨A,n⟩})):=cN W g _ tl rfl rfl (by rw[bo];decide) rfl hg
def Ev(v:Value):Sem Value:=Instr.loadAt WlT v
def AX(a v:Value):Sem Unit:=Instr.storeAt WlT a v
theorem sE(v:Value):Instr.loadAt WlT v=Ev v:=rfl
theorem sD(a v:Value):Instr.storeAt WlT a v=AX a v:=rfl
end
theorem yC:(prog.info? WlT).map (·.size)=some 5:=by kernel_rfl
theorem DE(x:Wl)(k:Hd):(wlC x k).all (·.oneCell')=true:=by simp[wlC,Value.oneCell']
theorem Gj{w:World}{g:Nat}{p:Pk}{h:Hs}(hb:Bk w g PkT (pkC p h)):(Ev (.pointer (some ⟨g,15,none⟩))).run prog w= .ok (wlV p.will h.wp) w:=by
 unfold Ev;have hc:w.rangeAt g 15 (wlC p.will h.wp).toList:=fun j v hv=>by
  rw[hb.cell];rcases j with _| _| _| _| _| j
  ·exact hv
  ·exact hv
  ·exact hv
  ·exact hv
  ·exact hv
  ·simp[wlC]at hv
 exact run_loadAt_mid w g 15 WlT (wlC p.will h.wp).toList _ hc underlying25 rfl (by rw[fT];exact yC)
theorem ye(W:World)(g:Nat)(hg:g<W.heap.size):∀(vs:List Value) (o:Nat) (cs:Array Value),(pw W g cs).setCells g o vs=pw W g (nP cs o vs)
 | [],_,_=>rfl
 | v :: vs,o,cs=>by rw[World.setCells,Bz W g cs o v hg,ye W g hg vs (o+1) _,nP]
theorem mX(W:World)(g:Nat)(p:Pk)(h:Hs)(x:Wl)(k:Hd)(hg:g<W.heap.size):(AX (.pointer (some ⟨g,15,none⟩)) (wlV x k)).run prog (pw W g (pkC p h))= .ok () (pw W g (pkC {p with will:=x} {h with wp:=k})):=by
 unfold AX;refine(run_storeAt_mid (pw W g (pkC p h)) g 15 WlT (wlC x k) (uu W g _ 15 5 hg (by rw[bo];decide)) yC (DE x k)).trans ?_;rw[ye W g hg,show nP (pkC p h) 15 (wlC x k).toList=pkC {p with will:=x} {h with wp:=k}from rfl]
theorem uw(W:World)(g:Nat)(p:Pk)(h:Hs)(x:Wl)(k:Hd)(hg:g<W.heap.size):(AX (.pointer (some ⟨g,15,none⟩)) (wlV x k)).run prog (pw W g (pkC p h)).drew= .ok () (pw W g (pkC {p with will:=x} {h with wp:=k})).drew:=mX W.drew g p h x k hg
theorem pU(W:World)(g:Nat)(p:Pk)(h:Hs)(hg:g<W.heap.size):(AX (.pointer (some ⟨g,15,none⟩)) (.agg #[.string ⟨#[]⟩,.string ⟨#[]⟩,.int .i64 0,.bool false,.slice none 0 0])).run prog (pw W g (pkC p h))= .ok () (pw W g (pkC {p with will:=wl0} {h with wp:=hd0})):=mX W g p h wl0 hd0 hg
end
section
attribute [local go_sem ↓] bD bF bH bI bu
attribute [local go_sem] bc aD bh bg bK bJ bd aY be aO ax cI dC dB dt dj di dA dr dp dn bW co bO bZ bX cz cy cw cu ct cC cn bS bP bR
def zA(p:Pk):Pk:={pk0 with kind:=p.kind,dup:=p.dup,retain:=p.retain,qos:=p.qos,id:=p.id,topic:=p.topic,payload:=p.payload,props:=p.props}
def kL(v:Int)(p:Pk):Bool:=decide (p=zA p/\¬(v=4/\0<p.props.length)/\(p.qos=0->p.id=0)/\(p.qos≠0->0<p.id/\p.id<65536))
def qR(p:Pk):Bool:=(nh p.props 35).isSome
def tc(v:Int)(p:Pk):Bool:=fp p.topic || (decide (v=5)&&(qR p&&decide (p.topic.size=0)))
theorem FK(l:List Pr)(id:Int)(h:∀p∈l,ea p):(xg l id).n<4294967296:=by
 unfold xg;cases hg:nh l id with
 | none=>simp
 | some q=>exact(h q (jc hg)).1
theorem AC(p:Pk)(h:Hs)(w:World)(ip:PkIn w w.heap.size p h)(ok:PkOk p):
  Calls prog 371 #[pkV p h] w fun e w'=>e= .returned (.tuple #[.int .i64 (xg p.props 35).n,.bool (qR p)])/\Below w.heap.size w w':=by
 have hn:=FK p.props 35 ok.props;have OK:=aa ok;have S0:=aa ((St.start w).push ip);clear ip ok;go_enter func371,ntmps371
 go_wp2_with fail
 refine(CD 35 p.props h.props.a h.props.c _ (S0.o.into 0 rfl).props OK.o.len.2.2.2).mono ?_;rintro e w1 ⟨rfl,hb⟩;have S1:=aa (S0.o.below hb);clear hb
 have HA:Hid (qR p=(nh p.props 35).isSome):=aa rfl;generalize (nh p.props 35).isSome=al at*;obtain⟨q,hq⟩:∃q,xg p.props 35=q:=⟨_,rfl⟩;rw[hq]at hn⊢;have HQ:=aa hq;clear hq;obtain⟨id,n,t,u⟩:=q;simp only at hn;have hw:IntKind.i64.wrap (n:Int)=(n:Int):=by rw[aQ];omega
 simp only[Pr.val];have S2:=aa (S1.o.alloc (.cells #[.int .i64 id,.int .u32 n,.string t,.string u] 102));go_wp2;go_ret2;exact⟨by rw[HA.o,HQ.o];rfl,S2.o.kept⟩
theorem BI(v:Int)(p:Pk)(h:Hs)(w:World)(ip:PkIn w w.heap.size p h)(ok:PkOk p):
  Calls prog 341 #[.int .i64 v,pkV p h] w fun e w'=>e= .returned (.bool (tc v p))/\Below w.heap.size w w':=by
 have OK:=aa ok;have S0:=aa ((St.start w).push ip);have HE:Hid (tc v p=(fp p.topic || (decide (v=5)&&(qR p&&decide (p.topic.size=0))))):=aa rfl;clear ip ok;have hl:=S0.o.ld 0 rfl;go_enter func341,ntmps341
 go_wp2_with fail
 refine(AC p h _ (S0.o.into 0 rfl) OK.o).mono ?_;rintro e w1 ⟨rfl,hb⟩;have S1:=aa (S0.o.below hb);clear hb hl
 have k1:=S1.o.cell 0 rfl 5;rw[di]at k1
 go_wp2_with fail
 refine(lw p.topic _ (by have:=OK.o.texts.1;omega)).mono ?_;rintro e w2 ⟨rfl,hb⟩;have S2:=aa (S1.o.below hb);clear hb k1
 have k2:=S2.o.cell 0 rfl 5;rw[di]at k2;have hem:=kR p.topic;rw[<-hem]at HE;clear hem;cases hn:fp p.topic
 ·rw[hn,nB]at HE
  by_cases h5:v=5
  ·have e5:(v==5)=true:=aK.2 h5;rw[au h5,aL]at HE;clear hn h5;cases ha:qR p
   ·rw[ha,bj]at HE;clear ha;go_wp2;go_ret;exact⟨by rw[HE.o];rfl,S2.o.kept⟩
   ·rw[ha,aL]at HE;clear ha;go_wp2;go_ret;exact⟨by rw[HE.o];rfl,S2.o.kept⟩
  ·have e5:(v==5)=false:=ar.2 h5;rw[ah h5,bj]at HE;clear hn h5;go_wp2;go_ret;exact⟨by rw[HE.o];rfl,S2.o.kept⟩
 ·rw[hn,Bool.true_or]at HE;clear hn;go_wp2;go_ret;exact⟨by rw[HE.o];rfl,S2.o.kept⟩
attribute [local go_sem ↓high] bu sD sE
attribute [local go_sem ↓] wh
attribute [local go_sem] Cv BD mX pU sO ta s9 sZ sV sU sT sS sR sQ sP pC pB pA py pu pr pq pp po pm pj sY pX sX pW sW pV
structure PwIn (w:World) (p:Pk) (h:Hs) (W:World):Prop where
 below:Below w.heap.size w W
 lt:w.heap.size+1<W.heap.size
 bk:Bk W w.heap.size PkT (pkC p h)
theorem PwIn.bk_pw{w W:World}{p:Pk}{h:Hs}(s:PwIn w p h W)(cs:Array Value):Bk (pw W (w.heap.size+1) cs) w.heap.size PkT (pkC p h):=(uv W (w.heap.size+1) cs (by omega)).trans s.bk
theorem PwIn.kept{w W:World}{p:Pk}{h:Hs}(s:PwIn w p h W)(cs:Array Value):Below w.heap.size w (pw W (w.heap.size+1) cs):=BC W _ cs s.below (by omega)
theorem mF(w:World)(p q:Pk)(h k:Hs):∃W,PwIn w p h W/\(zc (.pointer (some ⟨w.heap.size+1,0,none⟩)) (pkV q k)).run prog ((w.alloc (.cells (pkC p h) PkT)).alloc (.cells (pkC pk0 hs0) PkT))= .ok () (pw W (w.heap.size+1) (pkC q k)):=by
 have B0:=Bk.fresh (w.alloc (.cells (pkC p h) PkT)) PkT (pkC q k);have hst:=ax (w.alloc (.cells (pkC p h) PkT)) pk0 q hs0 k;rw[ey]at hst B0;have B1:Below w.heap.size w (w.alloc (.cells (pkC p h) PkT)):=(aq _ _).alloc (ac _) _;refine⟨(w.alloc (.cells (pkC p h) PkT)).alloc (.cells (pkC q k) PkT),⟨B1.alloc B1.size _,by simp,(Bk.fresh w PkT (pkC p h)).alloc _⟩,?_⟩;rw[D7 _ _ _ B0];exact hst
theorem BJ(v:Int)(p:Pk)(h:Hs)(w:World)(ip:PkIn w w.heap.size p h)(ok:PkOk p):
  Calls prog 339 #[.int .i64 v,pkV p h] w fun e w'=>e= .returned (.bool (kL v p))/\Below w.heap.size w w':=by
 have OK:=aa ok;have IP:=aa ip;have hl:=cf (Bk.fresh w PkT (pkC p h));obtain⟨W,hW,hst⟩:=mF w p p h h;have HW:=aa hW;have hlt:=hW.lt;have hl0:=fun cs=>cf (hW.bk_pw cs);clear ip ok hW;have HE:Hid (kL v p=decide (p=zA p/\¬(v=4/\0<p.props.length)/\(p.qos=0->p.id=0)/\(p.qos≠0->0<p.id/\p.id<65536))):=aa rfl;have HQI:Hid (∀x,Below w.heap.size w x->PkIn x x.heap.size p h/\PkIn x x.heap.size (zA p) (vU h)):=aa fun x hx=>by
  have:=(IP.o.below hx).wider hx.size;exact⟨this,Rd.nil _ _ _ _,Rd.nil _ _ _ _,Rd.nil _ _ _ _,this.props,ag _,ag _,ag _,this.caps.2.2.2⟩
 go_enter func339,ntmps339
 go_wp2_with fail
 refine(jE p (zA p) h (vU h) _ (HQI.o _ (HW.o.kept _)).1 (HQI.o _ (HW.o.kept _)).2 OK.o.len ⟨ag _,ag _,ag _,OK.o.len.2.2.2⟩).mono ?_;rintro e w1 ⟨rfl,hb⟩;have HB:=aa ((HW.o.kept _).trans (hb.mono (HW.o.kept _).size));have HP:=aa ((HW.o.bk_pw _).below hb (HW.o.bk_pw _).lt);clear hb hl hl0 hst hlt
 by_cases hs:p=zA p
 rotate_left
 ·rw[ah hs];have HX:Hid (kL v p=false):=aa (by rw[HE.o];exact ah (fun y=>hs y.1));clear hs;go_wp2;go_ret;exact⟨by rw[HX.o];rfl,HB.o⟩
 rw[au hs];have k1:=HP.o.cell 24;rw[bR]at k1;have k2:=HP.o.cell 3;rw[dt]at k2;have k3:=HP.o.cell 4;rw[dj]at k3;have HS:=aa hs;clear hs
 by_cases h4:v=4
 ·have e4:(v==4)=true:=aK.2 h4
  by_cases hp:0<p.props.length
  ·have HX:Hid (kL v p=false):=aa (by rw[HE.o];exact ah (fun y=>y.2.1 ⟨h4,hp⟩));have d1:(0:Int)<(p.props.length:Int):=by omega
   clear h4 hp;go_wp2;go_ret;exact⟨by rw[HX.o];rfl,HB.o⟩
  ·have HE2:Hid (kL v p=decide ((p.qos=0->p.id=0)/\(p.qos≠0->0<p.id/\p.id<65536))):=aa (by rw[HE.o];exact eb.2 ⟨fun y=>y.2.2,fun y=>⟨HS.o,fun z=>hp z.2,y⟩⟩);have d1:(p.props.length:Int)<=0:=by omega
   clear h4 hp
   by_cases hq:p.qos=0
   ·have eq:(p.qos==0)=true:=aK.2 hq;have HX:Hid (kL v p=(p.id==0)):=aa (by
     rw[HE2.o]
     by_cases hi:p.id=0
     ·rw[aK.2 hi];exact au ⟨fun _=>hi,fun y=>absurd hq y⟩
     ·rw[ar.2 hi];exact ah (fun y=>hi (y.1 hq)))
    clear hq;go_wp2;go_ret;exact⟨by rw[HX.o];rfl,HB.o⟩
   ·have eq:(p.qos==0)=false:=ar.2 hq;have HX:Hid (kL v p=decide (0<p.id/\p.id<65536)):=aa (by rw[HE2.o];exact eb.2 ⟨fun y=>y.2 hq,fun y=>⟨fun z=>absurd z hq,fun _=>y⟩⟩);clear hq
    by_cases h1:0<p.id
    ·have HZ:Hid (kL v p=decide (p.id<65536)):=aa (by rw[HX.o];exact eb.2 ⟨fun y=>y.2,fun y=>⟨h1,y⟩⟩);go_wp2;go_ret;exact⟨by rw[HZ.o];rfl,HB.o⟩
    ·have HZ:Hid (kL v p=false):=aa (by rw[HX.o];exact ah (fun y=>h1 y.1));have h1':p.id<=0:=by omega
     clear h1;go_wp2;go_ret;exact⟨by rw[HZ.o];rfl,HB.o⟩
 ·have e4:(v==4)=false:=ar.2 h4;have HE2:Hid (kL v p=decide ((p.qos=0->p.id=0)/\(p.qos≠0->0<p.id/\p.id<65536))):=aa (by rw[HE.o];exact eb.2 ⟨fun y=>y.2.2,fun y=>⟨HS.o,fun z=>h4 z.1,y⟩⟩);clear h4
  by_cases hq:p.qos=0
  ·have eq:(p.qos==0)=true:=aK.2 hq;have HX:Hid (kL v p=(p.id==0)):=aa (by
    rw[HE2.o]
    by_cases hi:p.id=0
    ·rw[aK.2 hi];exact au ⟨fun _=>hi,fun y=>absurd hq y⟩
    ·rw[ar.2 hi];exact ah (fun y=>hi (y.1 hq)))
   clear hq;go_wp2;go_ret;exact⟨by rw[HX.o];rfl,HB.o⟩
  ·have eq:(p.qos==0)=false:=ar.2 hq;have HX:Hid (kL v p=decide (0<p.id/\p.id<65536)):=aa (by rw[HE2.o];exact eb.2 ⟨fun y=>y.2 hq,fun y=>⟨fun z=>absurd z hq,fun _=>y⟩⟩);clear hq
   by_cases h1:0<p.id
   ·have HZ:Hid (kL v p=decide (p.id<65536)):=aa (by rw[HX.o];exact eb.2 ⟨fun y=>y.2,fun y=>⟨h1,y⟩⟩);go_wp2;go_ret;exact⟨by rw[HZ.o];rfl,HB.o⟩
   ·have HZ:Hid (kL v p=false):=aa (by rw[HX.o];exact ah (fun y=>h1 y.1));have h1':p.id<=0:=by omega
    clear h1;go_wp2;go_ret;exact⟨by rw[HZ.o];rfl,HB.o⟩
end
section
attribute [local go_sem ↓] bD bF bH bI bu
attribute [local go_sem] bc aD bh bg bK bJ bd aY be aO ax cI dC dB dt dj di dA dr dp dn bW co bO bZ bX cz cy cw cu ct cC cn bS bP bR
def dK(v:Int)(p:Pk)(k:Nat):Int:=
 if k=0 then(if ba v=true/\p.kind=3 then 0 else 2)else if k=1 then(eM v p).2 else if k=2 then(if kL v p=true then 0 else 2)else if k=3 then(if tc v p=true then 0 else 10)else(aM 3 p.props).2
def ii(v:Int)(p:Pk):Int:=
 if dK v p 0≠0 then dK v p 0 else if dK v p 1≠0 then dK v p 1 else if dK v p 2≠0 then dK v p 2 else if dK v p 3≠0 then dK v p 3 else dK v p 4
theorem jx{v:Int}{p:Pk}{k:Nat}(hk:k<5)(h0:∀j,j<k->dK v p j=0)(h:dK v p k≠0):ii v p=dK v p k:=by
 unfold ii;obtain rfl| rfl| rfl| rfl| rfl:k=0\/k=1\/k=2\/k=3\/k=4:=by omega
 ·rw[if_pos h]
 ·rw[ae (fun x=>x (h0 0 (by omega))),if_pos h]
 ·rw[ae (fun x=>x (h0 0 (by omega))),ae (fun x=>x (h0 1 (by omega))),if_pos h]
 ·rw[ae (fun x=>x (h0 0 (by omega))),ae (fun x=>x (h0 1 (by omega))),ae (fun x=>x (h0 2 (by omega))),if_pos h]
 ·rw[ae (fun x=>x (h0 0 (by omega))),ae (fun x=>x (h0 1 (by omega))),ae (fun x=>x (h0 2 (by omega))),ae (fun x=>x (h0 3 (by omega)))]
theorem uP{v:Int}{p:Pk}(h0:∀j,j<5->dK v p j=0):ii v p=0:=by
 unfold ii;rw[ae (fun x=>x (h0 0 (by omega))),ae (fun x=>x (h0 1 (by omega))),ae (fun x=>x (h0 2 (by omega))),ae (fun x=>x (h0 3 (by omega)))];exact h0 4 (by omega)
structure PV (w:World) (gv gp:Nat) (v:Int) (p:Pk) (h:Hs) (x:World):Prop where
 kept:Below w.heap.size w x
 vb:Bk x gv 3 #[.int .i64 v]
 pk:Bk x gp PkT (pkC p h)
 inn:PkIn x x.heap.size p h
theorem PV.below{w x y:World}{gv gp:Nat}{v:Int}{p:Pk}{h:Hs}(s:PV w gv gp v p h x)(hb:Below x.heap.size x y):PV w gv gp v p h y:=
 ⟨s.kept.trans (hb.mono s.kept.size),s.vb.below hb s.vb.lt,s.pk.below hb s.pk.lt,s.inn.next hb⟩
def nA(v:Int)(p:Pk)(k:Nat)(x:World)(e:Ending)(y:World):Prop:=e= .returned (.int .i64 (dK v p k))/\Below x.heap.size x y
theorem zT(w:World)(gv gp:Nat)(v:Int)(p:Pk)(h:Hs)(x:World)(s:PV w gv gp v p h x):
  Calls prog 335 #[.pointer (some ⟨gv,0,none⟩),.pointer (some ⟨gp,0,none⟩)] x (nA v p 0 x):=by
 have HE:Hid (dK v p 0=if ba v=true/\p.kind=3 then 0 else 2):=aa rfl;have k1:x.cell? ⟨gv,0,none⟩=some (.int .i64 v):=s.vb.cell 0;have k2:x.cell? ⟨gp,0,none⟩=some (.int .i64 p.kind):=s.pk.cell 0;clear s;go_enter func335,ntmps335
 go_wp2_with fail
 refine(mZ v _).mono ?_;rintro e w1 ⟨rfl,rfl⟩;cases hk:ba v
 ·have HX:Hid (dK v p 0=2):=aa (by rw[HE.o,ae (fun y=>by rw[hk]at y;cases y.1)]);clear hk
  go_wp2_with fail
  refine(jC true 2 _).mono ?_;rintro e w1 ⟨rfl,rfl⟩;go_wp2;go_ret;exact⟨by rw[HX.o];rfl,aq _ _⟩
 ·by_cases h3:p.kind=3
  ·have HX:Hid (dK v p 0=0):=aa (by rw[HE.o,if_pos ⟨hk,h3⟩]);have e3:(p.kind !=3)=false:=by simpa using h3
   clear hk h3
   go_wp2_with fail
   refine(jC false 2 _).mono ?_;rintro e w1 ⟨rfl,rfl⟩;go_wp2;go_ret;exact⟨by rw[HX.o];rfl,aq _ _⟩
  ·have HX:Hid (dK v p 0=2):=aa (by rw[HE.o,ae (fun y=>h3 y.2)]);have e3:(p.kind !=3)=true:=aA.2 h3;clear hk h3
   go_wp2_with fail
   refine(jC true 2 _).mono ?_;rintro e w1 ⟨rfl,rfl⟩;go_wp2;go_ret;exact⟨by rw[HX.o];rfl,aq _ _⟩
theorem zS(w:World)(gv gp:Nat)(v:Int)(p:Pk)(h:Hs)(x:World)(s:PV w gv gp v p h x):
  Calls prog 337 #[.pointer (some ⟨gv,0,none⟩),.pointer (some ⟨gp,0,none⟩)] x (nA v p 1 x):=by
 have HE:Hid (dK v p 1=(eM v p).2):=aa rfl;have k1:x.cell? ⟨gv,0,none⟩=some (.int .i64 v):=s.vb.cell 0;have hl:=cf s.pk;clear s;go_enter func337,ntmps337
 go_wp2_with fail
 refine(vp v p h _).mono ?_;rintro e w1 ⟨rfl,hb⟩;have HB:=aa hb;clear hb
 go_wp2;go_ret;exact⟨by rw[HE.o];rfl,HB.o⟩
theorem zR(w:World)(gv gp:Nat)(v:Int)(p:Pk)(h:Hs)(ok:PkOk p)(x:World)(s:PV w gv gp v p h x):
  Calls prog 338 #[.pointer (some ⟨gv,0,none⟩),.pointer (some ⟨gp,0,none⟩)] x (nA v p 2 x):=by
 have HE:Hid (dK v p 2=if kL v p=true then 0 else 2):=aa rfl;have k1:x.cell? ⟨gv,0,none⟩=some (.int .i64 v):=s.vb.cell 0;have hl:=cf s.pk;have SS:=aa s;have OK:=aa ok
 clear s ok;go_enter func338,ntmps338
 go_wp2_with fail
 refine(BJ v p h _ SS.o.inn OK.o).mono ?_;rintro e w1 ⟨rfl,hb⟩;have HB:=aa hb;clear hb hl k1
 cases hf:kL v p
 ·have HX:Hid (dK v p 2=2):=aa (by rw[HE.o,hf];rfl);clear hf
  go_wp2_with fail
  refine(jC true 2 _).mono ?_;rintro e w2 ⟨rfl,rfl⟩;go_wp2;go_ret;exact⟨by rw[HX.o];rfl,HB.o⟩
 ·have HX:Hid (dK v p 2=0):=aa (by rw[HE.o,hf];rfl);clear hf
  go_wp2_with fail
  refine(jC false 2 _).mono ?_;rintro e w2 ⟨rfl,rfl⟩;go_wp2;go_ret;exact⟨by rw[HX.o];rfl,HB.o⟩
theorem zQ(w:World)(gv gp:Nat)(v:Int)(p:Pk)(h:Hs)(ok:PkOk p)(x:World)(s:PV w gv gp v p h x):
  Calls prog 340 #[.pointer (some ⟨gv,0,none⟩),.pointer (some ⟨gp,0,none⟩)] x (nA v p 3 x):=by
 have HE:Hid (dK v p 3=if tc v p=true then 0 else 10):=aa rfl;have k1:x.cell? ⟨gv,0,none⟩=some (.int .i64 v):=s.vb.cell 0;have hl:=cf s.pk;have SS:=aa s;have OK:=aa ok
 clear s ok;go_enter func340,ntmps340
 go_wp2_with fail
 refine(BI v p h _ SS.o.inn OK.o).mono ?_;rintro e w1 ⟨rfl,hb⟩;have HB:=aa hb;clear hb hl k1
 cases hf:tc v p
 ·have HX:Hid (dK v p 3=10):=aa (by rw[HE.o,hf];rfl);clear hf
  go_wp2_with fail
  refine(jC true 10 _).mono ?_;rintro e w2 ⟨rfl,rfl⟩;go_wp2;go_ret;exact⟨by rw[HX.o];rfl,HB.o⟩
 ·have HX:Hid (dK v p 3=0):=aa (by rw[HE.o,hf];rfl);clear hf
  go_wp2_with fail
  refine(jC false 10 _).mono ?_;rintro e w2 ⟨rfl,rfl⟩;go_wp2;go_ret;exact⟨by rw[HX.o];rfl,HB.o⟩
theorem zP(w:World)(gv gp:Nat)(v:Int)(p:Pk)(h:Hs)(ok:PkOk p)(x:World)(s:PV w gv gp v p h x):
  Calls prog 342 #[.pointer (some ⟨gp,0,none⟩)] x (nA v p 4 x):=by
 have HE:Hid (dK v p 4=(aM 3 p.props).2):=aa rfl;have k1:x.cell? ⟨gp,24,none⟩=some (.slice h.props.a p.props.length h.props.c):=s.pk.cell 24;have SS:=aa s;have OK:=aa ok
 clear s ok;go_enter func342,ntmps342
 go_wp2_with fail
 refine(gu 3 p.props _ rfl OK.o.props h.props.a h.props.c _ SS.o.inn.props OK.o.len.2.2.2).mono ?_;rintro e w1 ⟨rfl,hb⟩;have HB:=aa hb;clear hb k1
 go_wp2;go_ret;exact⟨by rw[HE.o];rfl,HB.o⟩
theorem Db(args:Array Value)(w:World):(callFunc 335 args).run prog w= .ok (.enter 335 args) w:=dv func335 (by kernel_rfl) rfl args w
theorem Da(args:Array Value)(w:World):(callFunc 337 args).run prog w= .ok (.enter 337 args) w:=dv func337 (by kernel_rfl) rfl args w
theorem CZ(args:Array Value)(w:World):(callFunc 338 args).run prog w= .ok (.enter 338 args) w:=dv func338 (by kernel_rfl) rfl args w
theorem CY(args:Array Value)(w:World):(callFunc 340 args).run prog w= .ok (.enter 340 args) w:=dv func340 (by kernel_rfl) rfl args w
theorem CX(args:Array Value)(w:World):(callFunc 342 args).run prog w= .ok (.enter 342 args) w:=dv func342 (by kernel_rfl) rfl args w
def uZ(gv gp:Nat):Array Value:=#[.func (.func 335) #[] #[.pointer (some ⟨gv,0,none⟩),.pointer (some ⟨gp,0,none⟩)],.func (.func 337) #[] #[.pointer (some ⟨gv,0,none⟩),.pointer (some ⟨gp,0,none⟩)],
 .func (.func 338) #[] #[.pointer (some ⟨gv,0,none⟩),.pointer (some ⟨gp,0,none⟩)],.func (.func 340) #[] #[.pointer (some ⟨gv,0,none⟩),.pointer (some ⟨gp,0,none⟩)],.func (.func 342) #[] #[.pointer (some ⟨gp,0,none⟩)]]
theorem mY(v:Int)(p:Pk)(h:Hs)(w:World)(ip:PkIn w w.heap.size p h)(ok:PkOk p):
  Calls prog 277 #[.int .i64 v,pkV p h] w fun e w'=>e= .returned (.int .i64 (ii v p))/\Below w.heap.size w w':=by
 have OK:=aa ok;have B1:=(aq w.heap.size w).alloc (ac _) (.cells #[.int .i64 v] 3);have S2:Hid (PV w w.heap.size (w.heap.size+1) v p h ((w.alloc (.cells #[.int .i64 v] 3)).alloc (.cells (pkC p h) PkT))):=aa (by
  refine⟨B1.alloc B1.size _,(Bk.fresh _ _ _).alloc _,?_,((ip.below B1).wider B1.size).next ((aq _ _).alloc (ac _) _)⟩;have:=Bk.fresh (w.alloc (.cells #[.int .i64 v] 3)) PkT (pkC p h);rwa[ey]at this)
 clear ip ok B1;go_enter func277,ntmps277
 go_wp2_with fail
 have GS:Hid (Bk (((w.alloc (.cells #[.int .i64 v] 3)).alloc (.cells (pkC p h) PkT)).alloc (.cells (uZ w.heap.size (w.heap.size+1)) 64)) (w.heap.size+2) 64 (uZ w.heap.size (w.heap.size+1))):=aa (by
  have:=Bk.fresh ((w.alloc (.cells #[.int .i64 v] 3)).alloc (.cells (pkC p h) PkT)) 64 (uZ w.heap.size (w.heap.size+1));rwa[ey,ey]at this)
 have S3:=aa (S2.o.below ((aq _ _).alloc (ac _) (.cells (uZ w.heap.size (w.heap.size+1)) 64)))
 go_loopw [17] (fun i wr=>∃k:Nat,k<=5/\i= .int .i64 k/\(∀j,j<k->dK v p j=0)/\PV w w.heap.size (w.heap.size+1) v p h wr/\Bk wr (w.heap.size+2) 64 (uZ w.heap.size (w.heap.size+1))) (fun i _=>5- (intOf i).toNat)
 case atStart=>exact⟨0,by omega,rfl,fun j hj=>by omega,S3.o,GS.o⟩
 case round=>
  obtain⟨k,hk,rfl,h0,hs,hg⟩:=hrel;have H0:=aa h0;have SR:=aa hs;have GR:=aa hg
  clear h0 hs hg;obtain rfl| rfl| rfl| rfl| rfl| rfl:k=0\/k=1\/k=2\/k=3\/k=4\/k=5:=by omega
  ·have HX:Hid (dK v p 0≠0->ii v p=dK v p 0):=aa (jx (by omega) H0.o);have c1:wr.cell? ⟨w.heap.size+2,0,none⟩=some (.func (.func 335) #[] #[.pointer (some ⟨w.heap.size,0,none⟩),.pointer (some ⟨w.heap.size+1,0,none⟩)]):=GR.o.cell 0;have en:=Db
   go_wp2_with fail
   refine(zT w w.heap.size (w.heap.size+1) v p h _ SR.o).mono ?_;rintro e w2 ⟨rfl,hb⟩;have S2:=aa (SR.o.below hb);have G2:=aa (GR.o.below hb GR.o.lt)
   clear hb c1 en
   by_cases hz:dK v p 0=0
   ·have HN:Hid (∀j,j<0+1->dK v p j=0):=aa (fun j hj=>by
     by_cases hjk:j=0
     ·rw[hjk];exact hz
     ·exact H0.o j (by omega))
    rw[hz];clear hz HX;go_wp2
    go_roundw
    case rel=>exact⟨0+1,by omega,by go_num,HN.o,S2.o,G2.o⟩
    case measure=>simp[intOf]
   ·have e0:(dK v p 0 !=0)=true:=aA.2 hz;have HY:=aa (HX.o hz);clear hz HX;go_wp2;go_ret;exact⟨by rw[HY.o];rfl,S2.o.kept⟩
  ·have HX:Hid (dK v p 1≠0->ii v p=dK v p 1):=aa (jx (by omega) H0.o);have c1:wr.cell? ⟨w.heap.size+2,1,none⟩=some (.func (.func 337) #[] #[.pointer (some ⟨w.heap.size,0,none⟩),.pointer (some ⟨w.heap.size+1,0,none⟩)]):=GR.o.cell 1;have en:=Da
   go_wp2_with fail
   refine(zS w w.heap.size (w.heap.size+1) v p h _ SR.o).mono ?_;rintro e w2 ⟨rfl,hb⟩;have S2:=aa (SR.o.below hb);have G2:=aa (GR.o.below hb GR.o.lt)
   clear hb c1 en
   by_cases hz:dK v p 1=0
   ·have HN:Hid (∀j,j<1+1->dK v p j=0):=aa (fun j hj=>by
     by_cases hjk:j=1
     ·rw[hjk];exact hz
     ·exact H0.o j (by omega))
    rw[hz];clear hz HX;go_wp2
    go_roundw
    case rel=>exact⟨1+1,by omega,by go_num,HN.o,S2.o,G2.o⟩
    case measure=>simp[intOf]
   ·have e0:(dK v p 1 !=0)=true:=aA.2 hz;have HY:=aa (HX.o hz);clear hz HX;go_wp2;go_ret;exact⟨by rw[HY.o];rfl,S2.o.kept⟩
  ·have HX:Hid (dK v p 2≠0->ii v p=dK v p 2):=aa (jx (by omega) H0.o);have c1:wr.cell? ⟨w.heap.size+2,2,none⟩=some (.func (.func 338) #[] #[.pointer (some ⟨w.heap.size,0,none⟩),.pointer (some ⟨w.heap.size+1,0,none⟩)]):=GR.o.cell 2;have en:=CZ
   go_wp2_with fail
   refine(zR w w.heap.size (w.heap.size+1) v p h OK.o _ SR.o).mono ?_;rintro e w2 ⟨rfl,hb⟩;have S2:=aa (SR.o.below hb);have G2:=aa (GR.o.below hb GR.o.lt)
   clear hb c1 en
   by_cases hz:dK v p 2=0
   ·have HN:Hid (∀j,j<2+1->dK v p j=0):=aa (fun j hj=>by
     by_cases hjk:j=2
     ·rw[hjk];exact hz
     ·exact H0.o j (by omega))
    rw[hz];clear hz HX;go_wp2
    go_roundw
    case rel=>exact⟨2+1,by omega,by go_num,HN.o,S2.o,G2.o⟩
    case measure=>simp[intOf]
   ·have e0:(dK v p 2 !=0)=true:=aA.2 hz;have HY:=aa (HX.o hz);clear hz HX;go_wp2;go_ret;exact⟨by rw[HY.o];rfl,S2.o.kept⟩
  ·have HX:Hid (dK v p 3≠0->ii v p=dK v p 3):=aa (jx (by omega) H0.o);have c1:wr.cell? ⟨w.heap.size+2,3,none⟩=some (.func (.func 340) #[] #[.pointer (some ⟨w.heap.size,0,none⟩),.pointer (some ⟨w.heap.size+1,0,none⟩)]):=GR.o.cell 3;have en:=CY
   go_wp2_with fail
   refine(zQ w w.heap.size (w.heap.size+1) v p h OK.o _ SR.o).mono ?_;rintro e w2 ⟨rfl,hb⟩;have S2:=aa (SR.o.below hb);have G2:=aa (GR.o.below hb GR.o.lt)
   clear hb c1 en
   by_cases hz:dK v p 3=0
   ·have HN:Hid (∀j,j<3+1->dK v p j=0):=aa (fun j hj=>by
     by_cases hjk:j=3
     ·rw[hjk];exact hz
     ·exact H0.o j (by omega))
    rw[hz];clear hz HX;go_wp2
    go_roundw
    case rel=>exact⟨3+1,by omega,by go_num,HN.o,S2.o,G2.o⟩
    case measure=>simp[intOf]
   ·have e0:(dK v p 3 !=0)=true:=aA.2 hz;have HY:=aa (HX.o hz);clear hz HX;go_wp2;go_ret;exact⟨by rw[HY.o];rfl,S2.o.kept⟩
  ·have HX:Hid (dK v p 4≠0->ii v p=dK v p 4):=aa (jx (by omega) H0.o);have c1:wr.cell? ⟨w.heap.size+2,4,none⟩=some (.func (.func 342) #[] #[.pointer (some ⟨w.heap.size+1,0,none⟩)]):=GR.o.cell 4;have en:=CX
   go_wp2_with fail
   refine(zP w w.heap.size (w.heap.size+1) v p h OK.o _ SR.o).mono ?_;rintro e w2 ⟨rfl,hb⟩;have S2:=aa (SR.o.below hb);have G2:=aa (GR.o.below hb GR.o.lt)
   clear hb c1 en
   by_cases hz:dK v p 4=0
   ·have HN:Hid (∀j,j<4+1->dK v p j=0):=aa (fun j hj=>by
     by_cases hjk:j=4
     ·rw[hjk];exact hz
     ·exact H0.o j (by omega))
    rw[hz];clear hz HX;go_wp2
    go_roundw
    case rel=>exact⟨4+1,by omega,by go_num,HN.o,S2.o,G2.o⟩
    case measure=>simp[intOf]
   ·have e0:(dK v p 4 !=0)=true:=aA.2 hz;have HY:=aa (HX.o hz);clear hz HX;go_wp2;go_ret;exact⟨by rw[HY.o];rfl,S2.o.kept⟩
  ·have HX:=aa (uP H0.o);go_wp2;go_ret;exact⟨by rw[HX.o];rfl,SR.o.kept⟩
def IM(s:ByteArray):ByteArray×Int:=if bN s=true then(cQ s,0)else(⟨#[]⟩,6)
theorem UW(s:ByteArray)(w:World)(hs:s.size<=4611686018427387904):
  Calls prog 58 #[.string s] w fun e w'=>e= .returned (.tuple #[.string (IM s).1,.int .i64 (IM s).2])/\Below w.heap.size w w':=by
 go_enter func58,ntmps58
 go_wp2_with fail
 refine(fk s _ hs).mono ?_;rintro e w1 ⟨rfl,hb⟩;have HB:=aa hb;clear hb
 cases hv:bN s
 ·have HX:Hid (IM s=(⟨#[]⟩,6)):=aa (by unfold IM;rw[ae (by rw[hv];decide)]);clear hv;go_wp2;go_ret2;exact⟨by rw[HX.o];rfl,HB.o⟩
 ·have HX:Hid (IM s=(cQ s,0)):=aa (by unfold IM;rw[if_pos hv]);have hz:=aa (gL hv);clear hv
  go_wp2_with fail
  refine(xi s _ hz.out).mono ?_;rintro e w2 ⟨rfl,hb⟩;have HB2:=aa (HB.o.trans (hb.mono HB.o.size));clear hb
  go_wp2;go_ret2;exact⟨by rw[HX.o];rfl,HB2.o⟩
def BH(p:Pk):ByteArray:=if p.qos≠0 then cQ p.topic++⟨(da p.id.toNat 2).toArray⟩else cQ p.topic
def ys(v:Int)(p:Pk):ByteArray:=if v=5 then BH p++⟨(aM p.kind p.props).1.toArray⟩else BH p
def Gf(v:Int)(p:Pk):ByteArray×Int:=if ii v p=0 then(ys v p++p.payload,0)else(⟨#[]⟩,ii v p)
structure PubGood (v:Int) (p:Pk):Prop where
 k:v=4\/v=5
 kind:p.kind=3
 flags:tJ p=false
 same:p=zA p
 old:v=4->p.props=[]
 id0:p.qos=0->p.id=0
 id1:p.qos≠0->0<p.id/\p.id<65536
 named:tc v p=true
 topic:bN p.topic=true
 bytes:(aM 3 p.props).2=0
theorem tV:bN ⟨#[]⟩=true:=by decide+kernel
theorem zB{v:Int}{p:Pk}(x:ii v p=0):PubGood v p:=by
 have h:∀j,j<5->dK v p j=0:=by
  intro j hj;refine aU.1 fun hn=>?_
  by_cases h0:dK v p 0=0
  ·by_cases h1:dK v p 1=0
   ·by_cases h2:dK v p 2=0
    ·by_cases h3:dK v p 3=0
     ·have e:ii v p=dK v p 4:=by unfold ii;rw[ae (fun y=>y h0),ae (fun y=>y h1),ae (fun y=>y h2),ae (fun y=>y h3)]
      obtain rfl| rfl| rfl| rfl| rfl:j=0\/j=1\/j=2\/j=3\/j=4:=by omega
      ·exact hn h0
      ·exact hn h1
      ·exact hn h2
      ·exact hn h3
      ·exact hn (e▸x)
     ·rw[jx (k:=3) (by omega) (fun i hi=>by obtain rfl| rfl| rfl:i=0\/i=1\/i=2:=by omega
                                            all_goals assumption) h3]at x
      exact h3 x
    ·rw[jx (k:=2) (by omega) (fun i hi=>by obtain rfl| rfl:i=0\/i=1:=by omega
                                           all_goals assumption) h2]at x
     exact h2 x
   ·rw[jx (k:=1) (by omega) (fun i hi=>by obtain rfl:i=0:=by omega
                                          assumption) h1]at x
    exact h1 x
  ·rw[jx (k:=0) (by omega) (fun i hi=>by omega) h0]at x;exact h0 x
 have l0:=h 0 (by omega);have l1:=h 1 (by omega);have l2:=h 2 (by omega);have l3:=h 3 (by omega);have l4:(aM 3 p.props).2=0:=h 4 (by omega);have hk:ba v=true/\p.kind=3:=aU.1 fun y=>by
  have:dK v p 0=2:=ae y;omega
 have hv:v=4\/v=5:=aR hk.1;have hq:tJ p=false:=by
  cases e:tJ p
  ·rfl
  ·have hki:dS v p.kind=true:=au (by omega);have:dK v p 1=7:=by
    show(eM v p).2=7;unfold eM;rw[ae (fun y=>by rw[hk.1]at y;cases y),ae (fun y=>by rw[hki]at y;cases y),ae (fun y=>y hk.2),if_pos e]
   omega
 have hf:kL v p=true:=aU.1 fun y=>by
  have:dK v p 2=2:=ae y;omega
 have hn:tc v p=true:=aU.1 fun y=>by
  have:dK v p 3=10:=ae y;omega
 obtain⟨f1,f2,f3,f4⟩:=aR hf;refine⟨hv,hk.2,hq,f1,fun h4=>?_,f3,f4,hn,?_,l4⟩
 ·have:¬0<p.props.length:=fun y=>f2 ⟨h4,y⟩;exact aF (by omega)
 ·unfold tc at hn;rcases Bool.or_eq_true_iff.1 hn with hn| hn
  ·unfold fp jY at hn;simp at hn;exact hn.1.2
  ·have hz:p.topic.size=0:=aR (Bool.and_eq_true_iff.1 (Bool.and_eq_true_iff.1 hn).2).2;have:p.topic=⟨#[]⟩:=eX (by rw[show ls (⟨#[]⟩:ByteArray)=[]from rfl];exact aF (by rw[aN];exact hz));rw[this];exact tV
theorem PubGood.ok{v:Int}{p:Pk}(x:PubGood v p):ii v p=0:=by
 have hk:ba v=true:=au x.k;have hki:dS v p.kind=true:=au (by have:=x.kind;omega);refine uP fun j hj=>?_;obtain rfl| rfl| rfl| rfl| rfl:j=0\/j=1\/j=2\/j=3\/j=4:=by omega
 ·show(if ba v=true/\p.kind=3 then(0:Int)else 2)=0;exact if_pos ⟨hk,x.kind⟩
 ·show(eM v p).2=0;unfold eM;rw[ae (fun y=>by rw[hk]at y;cases y),ae (fun y=>by rw[hki]at y;cases y),ae (fun y=>y x.kind),ae (fun y=>by rw[x.flags]at y;cases y)]
 ·show(if kL v p=true then(0:Int)else 2)=0;exact if_pos (au ⟨x.same,fun y=>by have:=x.old y.1;rw[this]at y;exact absurd y.2 (by simp),x.id0,x.id1⟩)
 ·show(if tc v p=true then(0:Int)else 10)=0;exact if_pos x.named
 ·exact x.bytes
theorem Va(v:Int)(p:Pk)(h:Hs)(w:World)(ip:PkIn w w.heap.size p h)(ok:PkOk p):
  Calls prog 199 #[.int .i64 v,pkV p h] w fun e w'=>e= .returned (.tuple #[.string (Gf v p).1,.int .i64 (Gf v p).2])/\Below w.heap.size w w':=by
 have OK:=aa ok;have S0:=aa ((St.start w).push ip);have HE:Hid (Gf v p=if ii v p=0 then(ys v p++p.payload,0)else(⟨#[]⟩,ii v p)):=aa rfl;have H2:Hid (ys v p=if v=5 then BH p++⟨(aM p.kind p.props).1.toArray⟩else BH p):=aa rfl;have H1:Hid (BH p=if p.qos≠0 then cQ p.topic++⟨(da p.id.toNat 2).toArray⟩else cQ p.topic):=aa rfl;clear ip ok;have hl:=S0.o.ld 0 rfl;go_enter func199,ntmps199
 go_wp2_with fail
 refine(mY v p h _ (S0.o.into 0 rfl) OK.o).mono ?_;rintro e w1 ⟨rfl,hb⟩;have S1:=aa (S0.o.below hb);clear hb hl
 by_cases he:ii v p=0
 rotate_left
 ·have e0:(ii v p !=0)=true:=aA.2 he;have HX:Hid (Gf v p=(⟨#[]⟩,ii v p)):=aa (by rw[HE.o,ae he]);clear he;go_wp2;go_ret2;exact⟨by rw[HX.o];rfl,S1.o.kept⟩
 have HX:Hid (Gf v p=(ys v p++p.payload,0)):=aa (by rw[HE.o,if_pos he]);have G:=aa (zB he);rw[he];have HB:=aa (G6 3 p.props G.o.bytes).2;have HT:=aa (gL G.o.topic);have k1:=S1.o.cell 0 rfl 5;rw[di]at k1;clear he
 go_wp2_with fail
 refine(UW p.topic _ (by have:=OK.o.texts.1;omega)).mono ?_;rintro e w2 ⟨rfl,hb⟩;have S2:=aa (S1.o.below hb);clear hb k1
 rw[show IM p.topic=(cQ p.topic,0)from if_pos G.o.topic];simp only;have hfs:(cQ p.topic).size<=65537:=by rw[eN];have:=HT.o;omega
 obtain⟨T,hT⟩:∃T,cQ p.topic=T:=⟨_,rfl⟩;rw[hT]at hfs H1⊢;have HFS:=aa hfs;obtain⟨Y,hY⟩:∃Y:ByteArray,p.payload=Y:=⟨_,rfl⟩;have HY:Hid (Y.size<=140737488351232):=aa (by rw[<-hY];exact OK.o.texts.2.1);obtain⟨Z,hZ⟩:∃Z:ByteArray,(⟨(aM p.kind p.props).1.toArray⟩:ByteArray)=Z:=⟨_,rfl⟩;have HZ:Hid (Z.size<=131075004):=aa (by rw[<-hZ,GW,G.o.kind];exact HB.o);have HZZ:=aa hZ;rw[hZ]at H2;rw[hY]at HX;have HYY:=aa hY;clear hT hfs hY hZ;have k2:=S2.o.cell 0 rfl 3;rw[dt]at k2;have k3:=S2.o.cell 0 rfl 4;rw[dj]at k3
 by_cases hq:p.qos=0
 ·have eq:(p.qos !=0)=false:=by simpa using hq
  have H1':Hid (BH p=T):=aa (by rw[H1.o,ae (fun y=>y hq)]);clear hq k3
  by_cases h5:v=5
  ·have e5:(v==5)=true:=aK.2 h5;have HW:Hid (Gf v p=(T++Z++Y,0)):=aa (by rw[HX.o,H2.o,if_pos h5,H1'.o]);have k4:=S2.o.cell 0 rfl 0;rw[cI]at k4;have k5:=S2.o.cell 0 rfl 24;rw[bR]at k5;clear h5
   go_wp2_with fail
   refine(UB p.kind p.props _ rfl OK.o.props h.props.a h.props.c _ (S2.o.into 0 rfl).props OK.o.len.2.2.2).mono ?_;rintro e w3 ⟨rfl,hb⟩;have S3:=aa (S2.o.below hb);clear hb k2 k4 k5
   rw[HZZ.o];have k6:w3.cell? ⟨w.heap.size,6,none⟩=some (.string Y):=by rw[<-HYY.o];exact S3.o.cell 0 rfl 6
   have hs1:¬(9223372036854775807<T.size+Z.size):=by have:=HFS.o;have:=HZ.o;omega
   have hs2:¬(9223372036854775807<T.size+Z.size+Y.size):=by have:=HFS.o;have:=HZ.o;have:=HY.o;omega
   go_wp2;go_ret2;exact⟨by rw[HW.o];rfl,S3.o.kept⟩
  ·have e5:(v==5)=false:=ar.2 h5;have HW:Hid (Gf v p=(T++Y,0)):=aa (by rw[HX.o,H2.o,ae h5,H1'.o]);have k6:w2.cell? ⟨w.heap.size,6,none⟩=some (.string Y):=by rw[<-HYY.o];exact S2.o.cell 0 rfl 6
   have hs1:¬(9223372036854775807<T.size+Y.size):=by have:=HFS.o;have:=HY.o;omega
   clear h5;go_wp2;go_ret2;exact⟨by rw[HW.o];rfl,S2.o.kept⟩
 ·have eq:(p.qos !=0)=true:=aA.2 hq;obtain⟨m,hm,hw1⟩:∃m:Nat,Hid (p.id.toNat=m)/\IntKind.u64.wrap p.id=(m:Int):=⟨_,aa rfl,by rw[iZ];have:=G.o.id1 hq;omega⟩;have HM:Hid (m<65536):=aa (by have:=hm.out;have:=G.o.id1 hq;omega);obtain⟨X,hX⟩:∃X:ByteArray,(⟨(da m 2).toArray⟩:ByteArray)=X:=⟨_,rfl⟩;have HXX:=aa hX;have HXS:Hid (X.size=2):=aa (by rw[<-hX,GW,fM]);have H1':Hid (BH p=T++X):=aa (by rw[H1.o,if_pos hq,hm.out,hX]);clear hq hX
  go_wp2_with fail
  refine(pD m 2 _ (by have:=HM.o;omega) (by omega) (by omega)).mono ?_;rintro e w3 ⟨rfl,hb⟩;have S3:=aa (S2.o.below hb);clear hb k2 k3
  rw[HXX.o];have hs0:¬(9223372036854775807<T.size+X.size):=by have:=HFS.o;have:=HXS.o;omega
  by_cases h5:v=5
  ·have e5:(v==5)=true:=aK.2 h5;have HW:Hid (Gf v p=(T++X++Z++Y,0)):=aa (by rw[HX.o,H2.o,if_pos h5,H1'.o]);have k4:=S3.o.cell 0 rfl 0;rw[cI]at k4;have k5:=S3.o.cell 0 rfl 24;rw[bR]at k5;clear h5
   go_wp2_with fail
   refine(UB p.kind p.props _ rfl OK.o.props h.props.a h.props.c _ (S3.o.into 0 rfl).props OK.o.len.2.2.2).mono ?_;rintro e w4 ⟨rfl,hb⟩;have S4:=aa (S3.o.below hb);clear hb k4 k5
   rw[HZZ.o];have k6:w4.cell? ⟨w.heap.size,6,none⟩=some (.string Y):=by rw[<-HYY.o];exact S4.o.cell 0 rfl 6
   have hs1:¬(9223372036854775807<T.size+X.size+Z.size):=by have:=HFS.o;have:=HXS.o;have:=HZ.o;omega
   have hs2:¬(9223372036854775807<T.size+X.size+Z.size+Y.size):=by have:=HFS.o;have:=HXS.o;have:=HZ.o;have:=HY.o;omega
   go_wp2;go_ret2;exact⟨by rw[HW.o];rfl,S4.o.kept⟩
  ·have e5:(v==5)=false:=ar.2 h5;have HW:Hid (Gf v p=(T++X++Y,0)):=aa (by rw[HX.o,H2.o,ae h5,H1'.o]);have k6:w3.cell? ⟨w.heap.size,6,none⟩=some (.string Y):=by rw[<-HYY.o];exact S3.o.cell 0 rfl 6
   have hs1:¬(9223372036854775807<T.size+X.size+Y.size):=by have:=HFS.o;have:=HXS.o;have:=HY.o;omega
   clear h5;go_wp2;go_ret2;exact⟨by rw[HW.o];rfl,S3.o.kept⟩
theorem xH:bits BinOp.and IntKind.i64 0 6=0/\bits BinOp.and IntKind.i64 1 6=0/\bits BinOp.and IntKind.i64 2 6=2/\bits BinOp.and IntKind.i64 3 6=2/\bits BinOp.and IntKind.i64 4 6=4/\bits BinOp.and IntKind.i64 5 6=4/\bits BinOp.and IntKind.i64 6 6=6/\bits BinOp.and IntKind.i64 7 6=6/\bits BinOp.and IntKind.i64 8 6=0/\bits BinOp.and IntKind.i64 9 6=0/\bits BinOp.and IntKind.i64 10 6=2/\bits BinOp.and IntKind.i64 11 6=2/\bits BinOp.and IntKind.i64 12 6=4/\bits BinOp.and IntKind.i64 13 6=4/\bits BinOp.and IntKind.i64 14 6=6/\bits BinOp.and IntKind.i64 15 6=6:=by decide+kernel
theorem xG:bits BinOp.and IntKind.i64 0 8=0/\bits BinOp.and IntKind.i64 1 8=0/\bits BinOp.and IntKind.i64 2 8=0/\bits BinOp.and IntKind.i64 3 8=0/\bits BinOp.and IntKind.i64 4 8=0/\bits BinOp.and IntKind.i64 5 8=0/\bits BinOp.and IntKind.i64 6 8=0/\bits BinOp.and IntKind.i64 7 8=0/\bits BinOp.and IntKind.i64 8 8=8/\bits BinOp.and IntKind.i64 9 8=8/\bits BinOp.and IntKind.i64 10 8=8/\bits BinOp.and IntKind.i64 11 8=8/\bits BinOp.and IntKind.i64 12 8=8/\bits BinOp.and IntKind.i64 13 8=8/\bits BinOp.and IntKind.i64 14 8=8/\bits BinOp.and IntKind.i64 15 8=8:=by decide+kernel
def gd(f:Int):Bool:=decide (f=0\/f=1\/f=2\/f=3\/f=4\/f=5\/f=10\/f=11\/f=12\/f=13)
theorem oQ(f:Int)(w:World):Calls prog 179 #[.int .i64 3,.int .i64 f] w fun e w'=>e= .returned (.bool (gd f))/\w=w':=by
 by_cases h0:f<0
 ·have HX:Hid (gd f=false):=aa (ah (by omega));go_enter func179,ntmps179;go_wp2;go_ret;exact⟨by rw[HX.o];rfl,rfl⟩
 by_cases h1:15<f
 ·have HX:Hid (gd f=false):=aa (ah (by omega));have d0:decide (f<0)=false:=ah h0;clear h0;go_enter func179,ntmps179;go_wp2;go_ret;exact⟨by rw[HX.o];rfl,rfl⟩
 obtain⟨a0,a1,a2,a3,a4,a5,a6,a7,a8,a9,a10,a11,a12,a13,a14,a15⟩:=xH;obtain⟨b0,b1,b2,b3,b4,b5,b6,b7,b8,b9,b10,b11,b12,b13,b14,b15⟩:=xG;obtain rfl| rfl| rfl| rfl| rfl| rfl| rfl| rfl| rfl| rfl| rfl| rfl| rfl| rfl| rfl| rfl:f=0\/f=1\/f=2\/f=3\/f=4\/f=5\/f=6\/f=7\/f=8\/f=9\/f=10\/f=11\/f=12\/f=13\/f=14\/f=15:=by omega
 all_goals
  clear h0 h1;go_enter func179,ntmps179;go_wp2;go_ret;exact⟨rfl,rfl⟩
theorem zg(w:World):Calls prog 180 #[.int .i64 0] w fun e w'=>e= .returned (.int .i64 1)/\Below w.heap.size w w':=by
 have HB:=aa (aq w.heap.size w);go_enter func180,ntmps180
 go_wp2_with fail
 refine(qm 0 _).mono ?_;rintro e w1 ⟨rfl,rfl⟩;have hm:wT 0=true:=by decide
 go_wp2
 go_loopw [0,3] (fun v o wr=>v= .int .i64 0/\o= .int .i64 1/\Below w.heap.size w wr) (fun _ _ _=>0)
 case atStart=>exact⟨rfl,rfl,HB.o⟩
 case round=>
  obtain⟨rfl,rfl,hbel⟩:=hrel;clear hm;go_wp2;go_ret;exact⟨rfl,hbel⟩
def eJ(v f:Int):Int:=if ba v=false then 2 else if gd f=false then 7 else 0
theorem tm(v f:Int)(w:World):Calls prog 129 #[.int .i64 v,.agg #[.int .i64 3,.int .i64 f,.int .i64 0]] w fun e w'=>e= .returned (.int .i64 (eJ v f))/\Below w.heap.size w w':=by
 have HE:Hid (eJ v f=if ba v=false then 2 else if gd f=false then 7 else 0):=aa rfl;have HB:=aa ((aq w.heap.size w).alloc (ac _) (.cells #[.int .i64 3,.int .i64 f,.int .i64 0] 112));go_enter func129,ntmps129
 go_wp2_with fail
 refine(j9 v _).mono ?_;rintro e w1 ⟨rfl,rfl⟩;cases hk:ba v
 ·have HX:Hid (eJ v f=2):=aa (by rw[HE.o,if_pos hk]);clear hk;go_wp2;go_ret;exact⟨by rw[HX.o];rfl,HB.o⟩
 have HE1:Hid (eJ v f=if gd f=false then 7 else 0):=aa (by rw[HE.o,ae (fun x=>by rw[hk]at x;cases x)]);have hk3:dS v 3=true:=au (by omega);clear hk HE;have k1:(w.alloc (.cells #[.int .i64 3,.int .i64 f,.int .i64 0] 112)).cell? ⟨w.heap.size,0,none⟩=some (.int .i64 3):=(Bk.fresh w 112 _).cell 0;have k2:(w.alloc (.cells #[.int .i64 3,.int .i64 f,.int .i64 0] 112)).cell? ⟨w.heap.size,1,none⟩=some (.int .i64 f):=(Bk.fresh w 112 _).cell 1;have k3:(w.alloc (.cells #[.int .i64 3,.int .i64 f,.int .i64 0] 112)).cell? ⟨w.heap.size,2,none⟩=some (.int .i64 0):=(Bk.fresh w 112 _).cell 2
 go_wp2_with fail
 refine(lD v 3 _).mono ?_;rintro e w1 ⟨rfl,rfl⟩
 go_wp2_with fail
 refine(oQ f _).mono ?_;rintro e w1 ⟨rfl,rfl⟩;cases hk:gd f
 ·have HX:Hid (eJ v f=7):=aa (by rw[HE1.o,if_pos hk]);clear hk;go_wp2;go_ret;exact⟨by rw[HX.o];rfl,HB.o⟩
 have HX:Hid (eJ v f=0):=aa (by rw[HE1.o,ae (fun x=>by rw[hk]at x;cases x)]);clear hk HE1
 go_wp2_with fail
 refine(zg _).mono ?_;rintro e w1 ⟨rfl,hb⟩;have HB2:=aa (HB.o.trans (hb.mono HB.o.size));clear hb
 go_wp2;go_ret;exact⟨by rw[HX.o];rfl,HB2.o⟩
end
end Go.Proofs.YtbdgkkmbnahgiaaGreatDoor
