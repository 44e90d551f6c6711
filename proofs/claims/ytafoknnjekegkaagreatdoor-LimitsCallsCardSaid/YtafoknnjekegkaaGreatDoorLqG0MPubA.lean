/- Parts: MPubA. -/
import Derived.Test.YtafoknnjekegkaaGreatDoorLqG0MAck
import Derived.Test.YtafoknnjekegkaaGreatDoorLqG0MLis
set_option maxRecDepth 10000
set_option maxHeartbeats 8000000
namespace Go.Proofs.YtafoknnjekegkaaGreatDoor
open Go.RowKit Go.Proofs.Tryz
variable {p:Pk}{w:abP}{h:Hs}{v:Int}
section
theorem kR(s:abO):s.toList.isEmpty=decide (s.size=0):=by
 cases a:s.toList.isEmpty
 ·exact(ah (λx=>by
   have:s=⟨#[]⟩:=eX (by rw[show ls (⟨#[]⟩:abO)=[]from rfl];exact aF (by rw[aN];exact x));rw[this]at a;exact absurd a (by decide+kernel))).symm
 ·exact(au (mL a)).symm
def YG(v:Int):Bool:=decide (v=4\/v=5)
def dS(v k:Int):Bool:=decide (1<=k/\(k<=14\/(k=15/\v=5)))
def gg(k:Int):Int:=if k=6\/k=8\/k=10 then 2 else 0
def ke(p:Pk):Int:=2*p.qos+(if p.retain=true then 1 else 0)+(if p.dup=true then 8 else 0)
def tJ(p:Pk):Bool:=decide (p.qos<0\/2<p.qos\/(p.qos=0/\p.dup=true))
def eM(v:Int)(p:Pk):Int×Int:=
 if YG v=false then(0,2)else if dS v p.kind=false then(0,8)else if p.kind≠3 then(gg p.kind,0)else if tJ p=true then(0,7)else(ke p,0)
theorem j9(v:Int)(w:abP):abT 43 #[.int .i64 v] w (.bool (YG v)):=by
 go_enter func43,ntmps43;go_wp2
 all_goals
  go_ret;refine⟨eT ?_,rfl⟩;unfold YG;by_cases a:v=4<;>by_cases b:v=5<;>simp_all
theorem mZ(v:Int)(w:abP):abT 174 #[.int .i64 v] w (.bool (YG v)):=by
 go_enter func174,ntmps174;go_wp2
 all_goals
  go_ret;refine⟨eT ?_,rfl⟩;unfold YG;by_cases a:v=4<;>by_cases b:v=5<;>simp_all
theorem jC(b:Bool)(x:Int)(w:abP):abT 237 #[.bool b,.int .i64 x] w (.int .i64 (if b=true then x else 0)):=by
 cases b
 all_goals
  go_enter func237,ntmps237;go_wp2;go_ret;exact⟨rfl,rfl⟩
theorem lD(v k:Int)(w:abP):abT 59 #[.int .i64 v,.int .i64 k] w (.bool (dS v k)):=by
 by_cases d:v=5
 ·have g:(v==5)=true:=aK.2 d;have f:Hid (dS v k=(decide (1<=k)&&decide (k<=15))):=aa (by unfold dS;rw[<-Ij];exact qf.2 (by omega));clear d;go_enter func59,ntmps59;go_wp2
  all_goals
   go_ret;refine⟨eT ?_,rfl⟩;rw[f.o];by_cases a:1<=k<;>by_cases b:k<=15<;>by_cases c:k<=14<;>simp_all<;>omega
 ·have g:(v==5)=false:=ar.2 d;have f:Hid (dS v k=(decide (1<=k)&&decide (k<=14))):=aa (by unfold dS;rw[<-Ij];exact qf.2 (by omega));clear d;go_enter func59,ntmps59;go_wp2
  all_goals
   go_ret;refine⟨eT ?_,rfl⟩;rw[f.o];by_cases a:1<=k<;>by_cases b:k<=15<;>by_cases c:k<=14<;>simp_all<;>omega
theorem oS(k:Int)(w:abP):abT 81 #[.int .i64 k] w (.int .i64 (gg k)):=by
 have a:Hid (gg k=if k=6\/k=8\/k=10 then 2 else 0):=aa rfl;go_enter func81,ntmps81;go_wp2
 all_goals
  go_ret;refine⟨?_,rfl⟩;rw[a.o]
  simp_all
theorem BR:bits BinOp.or IntKind.i64 0 1=1/\bits BinOp.or IntKind.i64 2 1=3/\bits BinOp.or IntKind.i64 4 1=5/\bits BinOp.or IntKind.i64 0 8=8/\bits BinOp.or IntKind.i64 1 8=9/\bits BinOp.or IntKind.i64 2 8=10/\bits BinOp.or IntKind.i64 3 8=11/\bits BinOp.or IntKind.i64 4 8=12/\bits BinOp.or IntKind.i64 5 8=13:=by decide+kernel
theorem vp(v:Int)(p:Pk)(h:Hs)(w:abP):
  abR 51 #[.int .i64 v,pkV p h] w (.tuple #[.int .i64 (eM v p).1,.int .i64 (eM v p).2]):=by
 have c:=aa ((aq w.heap.size w).alloc (ac _) (.cells (pkC p h) PkT));have z:=λj=>(Bk.fresh w PkT (pkC p h)).cell j;have n:Hid (eM v p=if YG v=false then(0,2)else if dS v p.kind=false then(0,8)else if p.kind≠3 then(gg p.kind,0)else if tJ p=true then(0,7)else(ke p,0)):=aa rfl;go_enter func51,ntmps51;go_wp2_with fail;refine(j9 v _).mono ?_;rintro e t ⟨rfl,rfl⟩;cases b:YG v
 ·have a:Hid (eM v p=(0,2)):=aa (by rw[n.o,if_pos b]);clear b;go_wp2;go_ret2;exact⟨by rw[a.o];rfl,c.o⟩
 have k:Hid (eM v p=if dS v p.kind=false then(0,8)else if p.kind≠3 then(gg p.kind,0)else if tJ p=true then(0,7)else(ke p,0)):=aa (by rw[n.o,Fl (λx=>by rw[b]at x;cases x)]);clear b n;go_wp2_with fail;refine(lD v p.kind _).mono ?_;rintro e t ⟨rfl,rfl⟩;cases b:dS v p.kind
 ·have a:Hid (eM v p=(0,8)):=aa (by rw[k.o,if_pos b]);clear b;go_wp2;go_ret2;exact⟨by rw[a.o];rfl,c.o⟩
 have l:Hid (eM v p=if p.kind≠3 then(gg p.kind,0)else if tJ p=true then(0,7)else(ke p,0)):=aa (by rw[k.o,Fl (λx=>by rw[b]at x;cases x)]);clear b k;by_cases i:p.kind=3;rotate_left
 ·have a:Hid (eM v p=(gg p.kind,0)):=aa (by rw[l.o,if_pos i]);have y:(p.kind !=3)=true:=aA.2 i;clear i;go_wp2_with fail;refine(oS p.kind _).mono ?_;rintro e t ⟨rfl,rfl⟩;go_wp2;go_ret2;exact⟨by rw[a.o];rfl,c.o⟩
 have g:Hid (eM v p=if tJ p=true then(0,7)else(ke p,0)):=aa (by rw[l.o,Fl (λx=>x i)]);have y:(p.kind !=3)=false:=by simpa using i
 clear i l;have B:(w.alloc (.cells (pkC p h) PkT)).cell? ⟨w.heap.size,3,none⟩=some (.int .i64 p.qos):=(Bk.fresh w PkT (pkC p h)).cell 3;have C:(w.alloc (.cells (pkC p h) PkT)).cell? ⟨w.heap.size,1,none⟩=some (.bool p.dup):=(Bk.fresh w PkT (pkC p h)).cell 1;have D:(w.alloc (.cells (pkC p h) PkT)).cell? ⟨w.heap.size,2,none⟩=some (.bool p.retain):=(Bk.fresh w PkT (pkC p h)).cell 2;have E:(w.alloc (.cells (pkC p h) PkT)).cell? ⟨w.heap.size,0,none⟩=some (.int .i64 p.kind):=(Bk.fresh w PkT (pkC p h)).cell 0;have f:Hid (tJ p=decide (p.qos<0\/2<p.qos\/(p.qos=0/\p.dup=true))):=aa rfl;have s:Hid (ke p=2*p.qos+(if p.retain=true then 1 else 0)+(if p.dup=true then 8 else 0)):=aa rfl;clear z;generalize p.qos=q at*;generalize p.dup=d at*;generalize p.retain=r at*;by_cases m:q<0
 ·have a:Hid (eM v p=(0,7)):=aa (by rw[g.o,if_pos (by rw[f.o];exact au (.inl m))]);go_wp2;go_ret2;exact⟨by rw[a.o];rfl,c.o⟩
 have u:decide (q<0)=false:=ah m;by_cases o:2<q
 ·have a:Hid (eM v p=(0,7)):=aa (by rw[g.o,if_pos (by rw[f.o];exact au (.inr (.inl o)))]);have A:0<=q:=by omega
  clear m;go_wp2;go_ret2;exact⟨by rw[a.o];rfl,c.o⟩
 obtain⟨b1,b2,F,G,H,I,J,K,L⟩:=BR;clear u;obtain rfl| rfl| rfl:q=0\/q=1\/q=2:=by omega
 all_goals cases d<;>cases r
 all_goals
  first
  | (have a:Hid (eM v p=(0,7)):=aa (by rw[g.o,if_pos (by rw[f.o];decide)])
     clear m o;go_wp2;go_ret2;exact⟨by rw[a.o];rfl,c.o⟩)
  | (have a:Hid (eM v p=(ke p,0)):=aa (by rw[g.o,Fl (by rw[f.o];decide)])
     clear m o;go_wp2;go_ret2;exact⟨by rw[a.o,s.o];rfl,c.o⟩)
end
section
def stF(t:TypeId)(a v:Value):Sem Unit:=Instr.storeAt t a v
theorem wh(t:TypeId)(a v:Value):Instr.storeAt t a v=stF t a v:=rfl
theorem DR{P:Program}{g i:Nat}{t:TypeId}{v:Value}(hi:(P.info? t).map (·.size)=some 1)(hv:v.cells= #[v])(h1:v.oneCell'=true)(ht:w.there g i 1):(stF t (.pointer (some ⟨g,i,none⟩)) v).run P w= .ok () (w.setCell ⟨g,i,none⟩ v):=by
 have e:Instr.storeAt t (.pointer (some ⟨g,i,none⟩)) v=Instr.storeAt t (.pointer (some ⟨g,i,none⟩)) (.agg #[v]):=by
  unfold Instr.storeAt storeVar;rw[hv];rfl
 unfold stF;rw[e,run_storeAt_mid w g i t #[v] ht hi (by simpa using h1)];rfl
def pw(W:abP)(g:Nat)(cs:Array Value):abP:={W with heap:=W.heap.setIfInBounds g (.cells cs PkT (0,0))}
section
variable (W:abP) (g:Nat) (cs:Array Value)
theorem DZ:(pw W g cs).heap.size=W.heap.size:=by simp[pw]
theorem uJ(hg:g<W.heap.size):Bk (pw W g cs) g PkT cs:=by
 unfold Bk pw;simp[hg]
theorem D7(hb:Bk W g PkT cs):pw W g cs=W:=by
 have b:W.heap.setIfInBounds g (.cells cs PkT (0,0))=W.heap:=by
  apply Il;intro k;by_cases a:k=g
  ·subst a;have:=hb;unfold Bk at this;rw[this];simp[hb.lt]
  ·rw[eK (λe=>a e.symm)]
 unfold pw;rw[b]
theorem uv{k:Nat}(hk:k≠g):(pw W g cs).heap[k]? =W.heap[k]? :=by
 unfold pw;exact eK (λe=>hk e.symm)
theorem BA:W.grownBy (pw W g cs) (some g):=⟨rfl,rfl,rfl,by rw[DZ];exact ac _,λk _ a=>uv W g cs (λe=>a (by rw[e]))⟩
theorem BC(h:abQ w W)(hg:w.heap.size<=g):abQ w (pw W g cs):=dw h (BA W g cs) h.size hg
theorem Bz(i:Nat)(u:Value)(hg:g<W.heap.size):(pw W g cs).setCell ⟨g,i,none⟩ u=pw W g (cs.setIfInBounds i u):=by
 have b:(W.heap.setIfInBounds g (.cells cs PkT (0,0))).modify g (fun
   | .cells c elem frozen=>.cells (if(none:Option Unit).isSome then c else c.setIfInBounds i u) elem frozen
   | o=>o)=W.heap.setIfInBounds g (.cells (cs.setIfInBounds i u) PkT (0,0)):=by
  apply Il;intro k;rw[Array.getElem?_modify];by_cases a:g=k
  ·subst a;simp[hg]
  ·rw[Fl a,eK a,eK a]
 unfold World.setCell pw;exact congrArg (λx=>{W with heap:=x}) b
theorem uu(i k:Nat)(hg:g<W.heap.size)(hi:i+k<=cs.size):(pw W g cs).there g i k:=λj a=>by
 rw[(uJ W g cs hg).cell,(uJ W g cs hg).free];refine⟨?_,rfl⟩;rw[eL (by omega)];rfl
theorem YV{P:Program}{t:TypeId}{v:Value}{i:Nat}{ds:Array Value}(hi:(P.info? t).map (·.size)=some 1)(hv:v.cells= #[v])(h1:v.oneCell'=true)(hlt:i<cs.size)(he:cs.setIfInBounds i v=ds)(hg:g<W.heap.size):
  (stF t (.pointer (some ⟨g,i,none⟩)) v).run P (pw W g cs)= .ok () (pw W g ds):=by
 subst he;rw[DR hi hv h1 (uu W g cs i 1 hg (by omega)),Bz W g cs i v hg]
theorem Cv(p:Pk)(h:Hs)(hg:g<W.heap.size):(kZ (.pointer (some ⟨g,0,none⟩))).run prog (pw W g (pkC p h))= .ok (pkV p h) (pw W g (pkC p h)):=cf (uJ W g (pkC p h) hg)
end
theorem od:(prog.info? 3).map (·.size)=some 1:=by kernel_rfl
theorem lB:(prog.info? 4).map (·.size)=some 1:=by kernel_rfl
theorem mI:(prog.info? 9).map (·.size)=some 1:=by kernel_rfl
theorem yE:(prog.info? 27).map (·.size)=some 1:=by kernel_rfl
theorem yD:(prog.info? 28).map (·.size)=some 1:=by kernel_rfl
section
variable (W:abP) (g:Nat) (p:Pk) (h:Hs)
theorem sR(x:Bool)(hg:g<W.heap.size):(stF 4 (.pointer (some ⟨g,7,none⟩)) (.bool x)).run prog (pw W g (pkC p h))= .ok () (pw W g (pkC {p with clean:=x} h)):=YV W g _ lB rfl rfl (by rw[bo];decide) rfl hg
theorem yi(x:Bool)(hg:g<W.heap.size):(stF 4 (.pointer (some ⟨g,7,none⟩)) (.bool x)).run prog (pw W g (pkC p h)).drew= .ok () (pw W g (pkC {p with clean:=x} h)).drew:=sR W.drew g p h x hg
theorem sQ(x:Int)(hg:g<W.heap.size):(stF 3 (.pointer (some ⟨g,8,none⟩)) (.int .i64 x)).run prog (pw W g (pkC p h))= .ok () (pw W g (pkC {p with alive:=x} h)):=YV W g _ od rfl rfl (by rw[bo];decide) rfl hg
theorem yh(x:Int)(hg:g<W.heap.size):(stF 3 (.pointer (some ⟨g,8,none⟩)) (.int .i64 x)).run prog (pw W g (pkC p h)).drew= .ok () (pw W g (pkC {p with alive:=x} h)).drew:=sQ W.drew g p h x hg
theorem sP(x:abO)(hg:g<W.heap.size):(stF 9 (.pointer (some ⟨g,9,none⟩)) (.string x)).run prog (pw W g (pkC p h))= .ok () (pw W g (pkC {p with client:=x} h)):=YV W g _ mI rfl rfl (by rw[bo];decide) rfl hg
theorem yg(x:abO)(hg:g<W.heap.size):(stF 9 (.pointer (some ⟨g,9,none⟩)) (.string x)).run prog (pw W g (pkC p h)).drew= .ok () (pw W g (pkC {p with client:=x} h)).drew:=sP W.drew g p h x hg
theorem pC(x:Bool)(hg:g<W.heap.size):(stF 4 (.pointer (some ⟨g,10,none⟩)) (.bool x)).run prog (pw W g (pkC p h))= .ok () (pw W g (pkC {p with hasUser:=x} h)):=YV W g _ lB rfl rfl (by rw[bo];decide) rfl hg
theorem uI(x:Bool)(hg:g<W.heap.size):(stF 4 (.pointer (some ⟨g,10,none⟩)) (.bool x)).run prog (pw W g (pkC p h)).drew= .ok () (pw W g (pkC {p with hasUser:=x} h)).drew:=pC W.drew g p h x hg
theorem pB(x:abO)(hg:g<W.heap.size):(stF 9 (.pointer (some ⟨g,11,none⟩)) (.string x)).run prog (pw W g (pkC p h))= .ok () (pw W g (pkC {p with user:=x} h)):=YV W g _ mI rfl rfl (by rw[bo];decide) rfl hg
theorem uH(x:abO)(hg:g<W.heap.size):(stF 9 (.pointer (some ⟨g,11,none⟩)) (.string x)).run prog (pw W g (pkC p h)).drew= .ok () (pw W g (pkC {p with user:=x} h)).drew:=pB W.drew g p h x hg
theorem pA(x:Bool)(hg:g<W.heap.size):(stF 4 (.pointer (some ⟨g,12,none⟩)) (.bool x)).run prog (pw W g (pkC p h))= .ok () (pw W g (pkC {p with hasPass:=x} h)):=YV W g _ lB rfl rfl (by rw[bo];decide) rfl hg
theorem uG(x:Bool)(hg:g<W.heap.size):(stF 4 (.pointer (some ⟨g,12,none⟩)) (.bool x)).run prog (pw W g (pkC p h)).drew= .ok () (pw W g (pkC {p with hasPass:=x} h)).drew:=pA W.drew g p h x hg
theorem py(x:abO)(hg:g<W.heap.size):(stF 9 (.pointer (some ⟨g,13,none⟩)) (.string x)).run prog (pw W g (pkC p h))= .ok () (pw W g (pkC {p with pass:=x} h)):=YV W g _ mI rfl rfl (by rw[bo];decide) rfl hg
theorem uF(x:abO)(hg:g<W.heap.size):(stF 9 (.pointer (some ⟨g,13,none⟩)) (.string x)).run prog (pw W g (pkC p h)).drew= .ok () (pw W g (pkC {p with pass:=x} h)).drew:=py W.drew g p h x hg
theorem pu(x:Bool)(hg:g<W.heap.size):(stF 4 (.pointer (some ⟨g,14,none⟩)) (.bool x)).run prog (pw W g (pkC p h))= .ok () (pw W g (pkC {p with hasWill:=x} h)):=YV W g _ lB rfl rfl (by rw[bo];decide) rfl hg
theorem uE(x:Bool)(hg:g<W.heap.size):(stF 4 (.pointer (some ⟨g,14,none⟩)) (.bool x)).run prog (pw W g (pkC p h)).drew= .ok () (pw W g (pkC {p with hasWill:=x} h)).drew:=pu W.drew g p h x hg
theorem pm(x:Bool)(hg:g<W.heap.size):(stF 4 (.pointer (some ⟨g,20,none⟩)) (.bool x)).run prog (pw W g (pkC p h))= .ok () (pw W g (pkC {p with session:=x} h)):=YV W g _ lB rfl rfl (by rw[bo];decide) rfl hg
theorem uy(x:Bool)(hg:g<W.heap.size):(stF 4 (.pointer (some ⟨g,20,none⟩)) (.bool x)).run prog (pw W g (pkC p h)).drew= .ok () (pw W g (pkC {p with session:=x} h)).drew:=pm W.drew g p h x hg
theorem pj(x:Int)(hg:g<W.heap.size):(stF 3 (.pointer (some ⟨g,21,none⟩)) (.int .i64 x)).run prog (pw W g (pkC p h))= .ok () (pw W g (pkC {p with code:=x} h)):=YV W g _ od rfl rfl (by rw[bo];decide) rfl hg
theorem ux(x:Int)(hg:g<W.heap.size):(stF 3 (.pointer (some ⟨g,21,none⟩)) (.int .i64 x)).run prog (pw W g (pkC p h)).drew= .ok () (pw W g (pkC {p with code:=x} h)).drew:=pj W.drew g p h x hg
theorem sY(l:List Int)(A:Option Addr)(n:Nat)(hg:g<W.heap.size):(stF 27 (.pointer (some ⟨g,22,none⟩)) (.slice A l.length n)).run prog (pw W g (pkC p h))= .ok () (pw W g (pkC {p with codes:=l} {h with codes:=⟨A,n⟩})):=YV W g _ yE rfl rfl (by rw[bo];decide) rfl hg
theorem pX(hg:g<W.heap.size):(stF 27 (.pointer (some ⟨g,22,none⟩)) (.slice none 0 0)).run prog (pw W g (pkC p h))= .ok () (pw W g (pkC {p with codes:=[]} {h with codes:=hd0})):=YV W g _ yE rfl rfl (by rw[bo];decide) rfl hg
theorem sX(l:List Fi)(A:Option Addr)(n:Nat)(hg:g<W.heap.size):(stF 28 (.pointer (some ⟨g,23,none⟩)) (.slice A l.length n)).run prog (pw W g (pkC p h))= .ok () (pw W g (pkC {p with filters:=l} {h with filters:=⟨A,n⟩})):=YV W g _ yD rfl rfl (by rw[bo];decide) rfl hg
theorem pW(hg:g<W.heap.size):(stF 28 (.pointer (some ⟨g,23,none⟩)) (.slice none 0 0)).run prog (pw W g (pkC p h))= .ok () (pw W g (pkC {p with filters:=[]} {h with filters:=hd0})):=YV W g _ yD rfl rfl (by rw[bo];decide) rfl hg
def Ev(v:Value):Sem Value:=Instr.loadAt WlT v
def AX(a v:Value):Sem Unit:=Instr.storeAt WlT a v
theorem sE(v:Value):Instr.loadAt WlT v=Ev v:=rfl
theorem sD(a v:Value):Instr.storeAt WlT a v=AX a v:=rfl
end
theorem yC:(prog.info? WlT).map (·.size)=some 5:=by kernel_rfl
theorem DE(x:Wl)(k:Hd):(wlC x k).all (·.oneCell')=true:=by simp[wlC,Value.oneCell']
theorem Gj{g:Nat}(hb:Bk w g PkT (pkC p h)):(Ev (.pointer (some ⟨g,15,none⟩))).run prog w= .ok (wlV p.will h.wp) w:=by
 unfold Ev;have b:w.rangeAt g 15 (wlC p.will h.wp).toList:=λj v a=>by
  rw[hb.cell];rcases j with _| _| _| _| _| j
  ·exact a
  ·exact a
  ·exact a
  ·exact a
  ·exact a
  ·simp[wlC]at a
 exact run_loadAt_mid w g 15 WlT (wlC p.will h.wp).toList _ b underlying26 rfl (by rw[fT];exact yC)
theorem ye(W:abP)(g:Nat)(hg:g<W.heap.size):∀(vs:List Value) (o:Nat) (cs:Array Value),(pw W g cs).setCells g o vs=pw W g (nP cs o vs)
 | [],_,_=>rfl
 | v :: vs,o,cs=>by rw[World.setCells,Bz W g cs o v hg,ye W g hg vs (o+1) _,nP]
theorem mX(W:abP)(g:Nat)(p:Pk)(h:Hs)(x:Wl)(k:Hd)(hg:g<W.heap.size):(AX (.pointer (some ⟨g,15,none⟩)) (wlV x k)).run prog (pw W g (pkC p h))= .ok () (pw W g (pkC {p with will:=x} {h with wp:=k})):=by
 unfold AX;refine(run_storeAt_mid (pw W g (pkC p h)) g 15 WlT (wlC x k) (uu W g _ 15 5 hg (by rw[bo];decide)) yC (DE x k)).trans ?_;rw[ye W g hg,show nP (pkC p h) 15 (wlC x k).toList=pkC {p with will:=x} {h with wp:=k}from rfl]
theorem uw(W:abP)(g:Nat)(p:Pk)(h:Hs)(x:Wl)(k:Hd)(hg:g<W.heap.size):(AX (.pointer (some ⟨g,15,none⟩)) (wlV x k)).run prog (pw W g (pkC p h)).drew= .ok () (pw W g (pkC {p with will:=x} {h with wp:=k})).drew:=mX W.drew g p h x k hg
theorem pU(W:abP)(g:Nat)(p:Pk)(h:Hs)(hg:g<W.heap.size):(AX (.pointer (some ⟨g,15,none⟩)) (.agg #[.string ⟨#[]⟩,.string ⟨#[]⟩,.int .i64 0,.bool false,.slice none 0 0])).run prog (pw W g (pkC p h))= .ok () (pw W g (pkC {p with will:=wl0} {h with wp:=hd0})):=mX W g p h wl0 hd0 hg
end
section
def zA(p:Pk):Pk:={pk0 with kind:=p.kind,dup:=p.dup,retain:=p.retain,qos:=p.qos,id:=p.id,topic:=p.topic,payload:=p.payload,props:=p.props}
def kL(v:Int)(p:Pk):Bool:=decide (p=zA p/\¬(v=4/\0<p.props.length)/\(p.qos=0->p.id=0)/\(p.qos≠0->0<p.id/\p.id<65536))
def qR(p:Pk):Bool:=(nh p.props 35).isSome
def tc(v:Int)(p:Pk):Bool:=fp p.topic || (decide (v=5)&&(qR p&&decide (p.topic.size=0)))
theorem FK(l:List Pr)(id:Int)(h:∀p∈l,qc p):(xg l id).n<4294967296:=by
 unfold xg;cases a:nh l id with
 | none=>simp
 | some q=>exact(h q (jc a)).1
theorem AC(p:Pk)(h:Hs)(w:abP)(ip:PkIn w w.heap.size p h)(ok:PkOk p):
  abR 290 #[pkV p h] w (.tuple #[.int .i64 (xg p.props 35).n,.bool (qR p)]):=by
 have g:=FK p.props 35 ok.props;have k:=aa ok;have d:=aa ((St.start w).push ip);clear ip ok;go_enter func290,ntmps290;go_wp2_with fail;refine Yg (CD 35 p.props h.props.a h.props.c _ (d.o.into 0 rfl).props k.o.len.2.2.2) λs f=>?_;have l:=aa (d.o.below f);clear f
 have i:Hid (qR p=(nh p.props 35).isSome):=aa rfl;generalize (nh p.props 35).isSome=al at*;obtain⟨q,b⟩:∃q,xg p.props 35=q:=⟨_,rfl⟩;rw[b]at g⊢;have j:=aa b;clear b;obtain⟨o,n,t,u⟩:=q;simp only at g;have r:IntKind.i64.wrap (n:Int)=(n:Int):=by rw[aQ];omega
 simp only[Pr.val];have m:=aa (l.o.alloc (.cells #[.int .i64 o,.int .u32 n,.string t,.string u] 71));go_wp2;go_ret2;exact⟨by rw[i.o,j.o];rfl,m.o.kept⟩
theorem BI(v:Int)(p:Pk)(h:Hs)(w:abP)(ip:PkIn w w.heap.size p h)(ok:PkOk p):
  abR 242 #[.int .i64 v,pkV p h] w (.bool (tc v p)):=by
 have k:=aa ok;have j:=aa ((St.start w).push ip);have a:Hid (tc v p=(fp p.topic || (decide (v=5)&&(qR p&&decide (p.topic.size=0))))):=aa rfl;clear ip ok;have o:=j.o.ld 0 rfl;go_enter func242,ntmps242;go_wp2_with fail;refine Yg (AC p h _ (j.o.into 0 rfl) k.o) λr d=>?_;have l:=aa (j.o.below d);clear d o
 have m:=l.o.cell 0 rfl 5;rw[di]at m;go_wp2_with fail;refine Yg (lw p.topic _ (by have:=k.o.texts.1;omega)) λs d=>?_;have c:=aa (l.o.below d);clear d m
 have q:=c.o.cell 0 rfl 5;rw[di]at q;have i:=kR p.topic;rw[<-i]at a;clear i;cases f:fp p.topic
 ·rw[f,nB]at a;by_cases b:v=5
  ·have n:(v==5)=true:=aK.2 b;rw[au b,aL]at a;clear f b;cases g:qR p
   ·rw[g,YH]at a;clear g;go_wp2;go_ret;exact⟨by rw[a.o];rfl,c.o.kept⟩
   ·rw[g,aL]at a;clear g;go_wp2;go_ret;exact⟨by rw[a.o];rfl,c.o.kept⟩
  ·have n:(v==5)=false:=ar.2 b;rw[ah b,YH]at a;clear f b;go_wp2;go_ret;exact⟨by rw[a.o];rfl,c.o.kept⟩
 ·rw[f,Bool.true_or]at a;clear f;go_wp2;go_ret;exact⟨by rw[a.o];rfl,c.o.kept⟩
attribute [local go_sem ↓high] bu sD sE
attribute [local go_sem ↓] wh
attribute [local go_sem] Cv mX pU sR sQ sP pC pB pA py pu pm pj sY pX sX pW
structure PwIn (w:abP) (p:Pk) (h:Hs) (W:abP):Prop where
 below:abQ w W
 lt:w.heap.size+1<W.heap.size
 bk:Bk W w.heap.size PkT (pkC p h)
theorem PwIn.bk_pw{W:abP}(s:PwIn w p h W)(cs:Array Value):Bk (pw W (w.heap.size+1) cs) w.heap.size PkT (pkC p h):=(uv W (w.heap.size+1) cs (by omega)).trans s.bk
theorem PwIn.kept{W:abP}(s:PwIn w p h W)(cs:Array Value):abQ w (pw W (w.heap.size+1) cs):=BC W _ cs s.below (by omega)
theorem mF(w:abP)(p q:Pk)(h k:Hs):∃W,PwIn w p h W/\(zc (.pointer (some ⟨w.heap.size+1,0,none⟩)) (pkV q k)).run prog ((w.alloc (.cells (pkC p h) PkT)).alloc (.cells (pkC pk0 hs0) PkT))= .ok () (pw W (w.heap.size+1) (pkC q k)):=by
 have b:=Bk.fresh (w.alloc (.cells (pkC p h) PkT)) PkT (pkC q k);have a:=ax (w.alloc (.cells (pkC p h) PkT)) pk0 q hs0 k;rw[ey]at a b;have c:abQ w (w.alloc (.cells (pkC p h) PkT)):=(aq _ _).alloc (ac _) _;refine⟨(w.alloc (.cells (pkC p h) PkT)).alloc (.cells (pkC q k) PkT),⟨c.alloc c.size _,by simp,(Bk.fresh w PkT (pkC p h)).alloc _⟩,?_⟩;rw[D7 _ _ _ b];exact a
theorem BJ(v:Int)(p:Pk)(h:Hs)(w:abP)(ip:PkIn w w.heap.size p h)(ok:PkOk p):
  abR 240 #[.int .i64 v,pkV p h] w (.bool (kL v p)):=by
 have u:=aa ok;have E:=aa ip;have I:=cf (Bk.fresh w PkT (pkC p h));obtain⟨W,k,C⟩:=mF w p p h h;have d:=aa k;have B:=k.lt;have A:=λF=>cf (k.bk_pw F);clear ip ok k;have j:Hid (kL v p=decide (p=zA p/\¬(v=4/\0<p.props.length)/\(p.qos=0->p.id=0)/\(p.qos≠0->0<p.id/\p.id<65536))):=aa rfl;have n:Hid (∀x,abQ w x->PkIn x x.heap.size p h/\PkIn x x.heap.size (zA p) (vU h)):=aa λx D=>by
  have:=(E.o.below D).wider D.size;exact⟨this,Rd.nil _ _ _ _,Rd.nil _ _ _ _,Rd.nil _ _ _ _,this.props,ag _,ag _,ag _,this.caps.2.2.2⟩
 go_enter func240,ntmps240;go_wp2_with fail;refine Yg (jE p (zA p) h (vU h) _ (n.o _ (d.o.kept _)).1 (n.o _ (d.o.kept _)).2 u.o.len ⟨ag _,ag _,ag _,u.o.len.2.2.2⟩) λN s=>?_;have g:=aa ((d.o.kept _).trans (s.mono (d.o.kept _).size));have o:=aa ((d.o.bk_pw _).below s (d.o.bk_pw _).lt);clear s I A C B;by_cases f:p=zA p;rotate_left
 ·rw[ah f];have a:Hid (kL v p=false):=aa (by rw[j.o];exact ah (λy=>f y.1));clear f;go_wp2;go_ret;exact⟨by rw[a.o];rfl,g.o⟩
 rw[au f];have J:=o.o.cell 24;rw[bR]at J;have K:=o.o.cell 3;rw[dt]at K;have L:=o.o.cell 4;rw[dj]at L;have t:=aa f;clear f;by_cases c:v=4
 focus
  have H:(v==4)=true:=aK.2 c;by_cases m:0<p.props.length
  ·have a:Hid (kL v p=false):=aa (by rw[j.o];exact ah (λy=>y.2.1 ⟨c,m⟩));have G:(0:Int)<(p.props.length:Int):=by omega
   clear c m;go_wp2;go_ret;exact⟨by rw[a.o];rfl,g.o⟩
  focus
   have i:Hid (kL v p=decide ((p.qos=0->p.id=0)/\(p.qos≠0->0<p.id/\p.id<65536))):=aa (by rw[j.o];exact qf.2 ⟨λy=>y.2.2,λy=>⟨t.o,λz=>m z.2,y⟩⟩);have G:(p.props.length:Int)<=0:=by omega
   clear c m
  rotate_left
 rotate_left
 focus
  have H:(v==4)=false:=ar.2 c;have i:Hid (kL v p=decide ((p.qos=0->p.id=0)/\(p.qos≠0->0<p.id/\p.id<65536))):=aa (by rw[j.o];exact qf.2 ⟨λy=>y.2.2,λy=>⟨t.o,λz=>c z.1,y⟩⟩);clear c
 rotate_left
 all_goals
  by_cases b:p.qos=0
  ·have eq:(p.qos==0)=true:=aK.2 b;have a:Hid (kL v p=(p.id==0)):=aa (by
    rw[i.o];by_cases l:p.id=0
    ·rw[aK.2 l];exact au ⟨λ_=>l,λy=>absurd b y⟩
    ·rw[ar.2 l];exact ah (λy=>l (y.1 b)))
   clear b;go_wp2;go_ret;exact⟨by rw[a.o];rfl,g.o⟩
  ·have eq:(p.qos==0)=false:=ar.2 b;have a:Hid (kL v p=decide (0<p.id/\p.id<65536)):=aa (by rw[i.o];exact qf.2 ⟨λy=>y.2 b,λy=>⟨λz=>absurd z b,λ_=>y⟩⟩);clear b;by_cases r:0<p.id
   ·have q:Hid (kL v p=decide (p.id<65536)):=aa (by rw[a.o];exact qf.2 ⟨λy=>y.2,λy=>⟨r,y⟩⟩);go_wp2;go_ret;exact⟨by rw[q.o];rfl,g.o⟩
   ·have q:Hid (kL v p=false):=aa (by rw[a.o];exact ah (λy=>r y.1));have M:p.id<=0:=by omega
    clear r;go_wp2;go_ret;exact⟨by rw[q.o];rfl,g.o⟩
end
section
def dK(v:Int)(p:Pk)(k:Nat):Int:=
 if k=0 then(if YG v=true/\p.kind=3 then 0 else 2)else if k=1 then(eM v p).2 else if k=2 then(if kL v p=true then 0 else 2)else if k=3 then(if tc v p=true then 0 else 10)else(aM 3 p.props).2
def ii(v:Int)(p:Pk):Int:=
 if dK v p 0≠0 then dK v p 0 else if dK v p 1≠0 then dK v p 1 else if dK v p 2≠0 then dK v p 2 else if dK v p 3≠0 then dK v p 3 else dK v p 4
theorem jx{k:Nat}(hk:k<5)(h0:∀j,j<k->dK v p j=0)(h:dK v p k≠0):ii v p=dK v p k:=by
 unfold ii;obtain rfl| rfl| rfl| rfl| rfl:k=0\/k=1\/k=2\/k=3\/k=4:=by omega
 ·rw[if_pos h]
 ·rw[Fl (λx=>x (h0 0 (by omega))),if_pos h]
 ·rw[Fl (λx=>x (h0 0 (by omega))),Fl (λx=>x (h0 1 (by omega))),if_pos h]
 ·rw[Fl (λx=>x (h0 0 (by omega))),Fl (λx=>x (h0 1 (by omega))),Fl (λx=>x (h0 2 (by omega))),if_pos h]
 ·rw[Fl (λx=>x (h0 0 (by omega))),Fl (λx=>x (h0 1 (by omega))),Fl (λx=>x (h0 2 (by omega))),Fl (λx=>x (h0 3 (by omega)))]
theorem uP(h0:∀j,j<5->dK v p j=0):ii v p=0:=by
 unfold ii;rw[Fl (λx=>x (h0 0 (by omega))),Fl (λx=>x (h0 1 (by omega))),Fl (λx=>x (h0 2 (by omega))),Fl (λx=>x (h0 3 (by omega)))];exact h0 4 (by omega)
structure PV (w:abP) (gv gp:Nat) (v:Int) (p:Pk) (h:Hs) (x:abP):Prop where
 kept:abQ w x
 vb:Bk x gv 3 #[.int .i64 v]
 pk:Bk x gp PkT (pkC p h)
 inn:PkIn x x.heap.size p h
theorem PV.below{x y:abP}{gv gp:Nat}(s:PV w gv gp v p h x)(hb:abQ x y):PV w gv gp v p h y:=
 ⟨Yf s.kept hb,Yh s.vb hb,Yh s.pk hb,s.inn.next hb⟩
def nA(v:Int)(p:Pk)(k:Nat)(x:abP)(e:Ending)(y:abP):Prop:=e= .returned (.int .i64 (dK v p k))/\abQ x y
theorem zT(w:abP)(gv gp:Nat)(v:Int)(p:Pk)(h:Hs)(x:abP)(s:PV w gv gp v p h x):
  Calls prog 236 #[.pointer (some ⟨gv,0,none⟩),.pointer (some ⟨gp,0,none⟩)] x (nA v p 0 x):=by
 have d:Hid (dK v p 0=if YG v=true/\p.kind=3 then 0 else 2):=aa rfl;have i:x.cell? ⟨gv,0,none⟩=some (.int .i64 v):=s.vb.cell 0;have j:x.cell? ⟨gp,0,none⟩=some (.int .i64 p.kind):=s.pk.cell 0;clear s;go_enter func236,ntmps236;go_wp2_with fail;refine(mZ v _).mono ?_;rintro e f ⟨rfl,rfl⟩;cases c:YG v
 ·have b:Hid (dK v p 0=2):=aa (by rw[d.o,Fl (λy=>by rw[c]at y;cases y.1)]);clear c;go_wp2_with fail;refine(jC true 2 _).mono ?_;rintro e f ⟨rfl,rfl⟩;go_wp2;go_ret;exact⟨by rw[b.o];rfl,aq _ _⟩
 ·by_cases a:p.kind=3
  ·have b:Hid (dK v p 0=0):=aa (by rw[d.o,if_pos ⟨c,a⟩]);have g:(p.kind !=3)=false:=by simpa using a
   clear c a;go_wp2_with fail;refine(jC false 2 _).mono ?_;rintro e f ⟨rfl,rfl⟩;go_wp2;go_ret;exact⟨by rw[b.o];rfl,aq _ _⟩
  ·have b:Hid (dK v p 0=2):=aa (by rw[d.o,Fl (λy=>a y.2)]);have g:(p.kind !=3)=true:=aA.2 a;clear c a;go_wp2_with fail;refine(jC true 2 _).mono ?_;rintro e f ⟨rfl,rfl⟩;go_wp2;go_ret;exact⟨by rw[b.o];rfl,aq _ _⟩
theorem zS(w:abP)(gv gp:Nat)(v:Int)(p:Pk)(h:Hs)(x:abP)(s:PV w gv gp v p h x):
  Calls prog 238 #[.pointer (some ⟨gv,0,none⟩),.pointer (some ⟨gp,0,none⟩)] x (nA v p 1 x):=by
 have c:Hid (dK v p 1=(eM v p).2):=aa rfl;have f:x.cell? ⟨gv,0,none⟩=some (.int .i64 v):=s.vb.cell 0;have d:=cf s.pk;clear s;go_enter func238,ntmps238;go_wp2_with fail;refine Yg (vp v p h _) λg a=>?_;have b:=aa a;clear a
 go_wp2;go_ret;exact⟨by rw[c.o];rfl,b.o⟩
theorem zR(w:abP)(gv gp:Nat)(v:Int)(p:Pk)(h:Hs)(ok:PkOk p)(x:abP)(s:PV w gv gp v p h x):
  Calls prog 239 #[.pointer (some ⟨gv,0,none⟩),.pointer (some ⟨gp,0,none⟩)] x (nA v p 2 x):=by
 have d:Hid (dK v p 2=if kL v p=true then 0 else 2):=aa rfl;have j:x.cell? ⟨gv,0,none⟩=some (.int .i64 v):=s.vb.cell 0;have i:=cf s.pk;have SS:=aa s;have g:=aa ok
 clear s ok;go_enter func239,ntmps239;go_wp2_with fail;refine Yg (BJ v p h _ SS.o.inn g.o) λl f=>?_;have c:=aa f;clear f i j
 cases a:kL v p
 ·have b:Hid (dK v p 2=2):=aa (by rw[d.o,a];rfl);clear a;go_wp2_with fail;refine(jC true 2 _).mono ?_;rintro e k ⟨rfl,rfl⟩;go_wp2;go_ret;exact⟨by rw[b.o];rfl,c.o⟩
 ·have b:Hid (dK v p 2=0):=aa (by rw[d.o,a];rfl);clear a;go_wp2_with fail;refine(jC false 2 _).mono ?_;rintro e k ⟨rfl,rfl⟩;go_wp2;go_ret;exact⟨by rw[b.o];rfl,c.o⟩
theorem zQ(w:abP)(gv gp:Nat)(v:Int)(p:Pk)(h:Hs)(ok:PkOk p)(x:abP)(s:PV w gv gp v p h x):
  Calls prog 241 #[.pointer (some ⟨gv,0,none⟩),.pointer (some ⟨gp,0,none⟩)] x (nA v p 3 x):=by
 have d:Hid (dK v p 3=if tc v p=true then 0 else 10):=aa rfl;have j:x.cell? ⟨gv,0,none⟩=some (.int .i64 v):=s.vb.cell 0;have i:=cf s.pk;have SS:=aa s;have g:=aa ok
 clear s ok;go_enter func241,ntmps241;go_wp2_with fail;refine Yg (BI v p h _ SS.o.inn g.o) λl f=>?_;have c:=aa f;clear f i j
 cases a:tc v p
 ·have b:Hid (dK v p 3=10):=aa (by rw[d.o,a];rfl);clear a;go_wp2_with fail;refine(jC true 10 _).mono ?_;rintro e k ⟨rfl,rfl⟩;go_wp2;go_ret;exact⟨by rw[b.o];rfl,c.o⟩
 ·have b:Hid (dK v p 3=0):=aa (by rw[d.o,a];rfl);clear a;go_wp2_with fail;refine(jC false 10 _).mono ?_;rintro e k ⟨rfl,rfl⟩;go_wp2;go_ret;exact⟨by rw[b.o];rfl,c.o⟩
theorem zP(w:abP)(gv gp:Nat)(v:Int)(p:Pk)(h:Hs)(ok:PkOk p)(x:abP)(s:PV w gv gp v p h x):
  Calls prog 243 #[.pointer (some ⟨gp,0,none⟩)] x (nA v p 4 x):=by
 have g:Hid (dK v p 4=(aM 3 p.props).2):=aa rfl;have i:x.cell? ⟨gp,24,none⟩=some (.slice h.props.a p.props.length h.props.c):=s.pk.cell 24;have SS:=aa s;have b:=aa ok
 clear s ok;go_enter func243,ntmps243;go_wp2_with fail;refine Yg (gu 3 p.props _ rfl b.o.props h.props.a h.props.c _ SS.o.inn.props b.o.len.2.2.2) λj d=>?_;have f:=aa d;clear d i
 go_wp2;go_ret;exact⟨by rw[g.o];rfl,f.o⟩
theorem Db(args:Array Value)(w:abP):(callFunc 236 args).run prog w= .ok (.enter 236 args) w:=dv func236 (by kernel_rfl) rfl args w
theorem Da(args:Array Value)(w:abP):(callFunc 238 args).run prog w= .ok (.enter 238 args) w:=dv func238 (by kernel_rfl) rfl args w
theorem CZ(args:Array Value)(w:abP):(callFunc 239 args).run prog w= .ok (.enter 239 args) w:=dv func239 (by kernel_rfl) rfl args w
theorem CY(args:Array Value)(w:abP):(callFunc 241 args).run prog w= .ok (.enter 241 args) w:=dv func241 (by kernel_rfl) rfl args w
theorem CX(args:Array Value)(w:abP):(callFunc 243 args).run prog w= .ok (.enter 243 args) w:=dv func243 (by kernel_rfl) rfl args w
def uZ(gv gp:Nat):Array Value:=#[.func (.func 236) #[] #[.pointer (some ⟨gv,0,none⟩),.pointer (some ⟨gp,0,none⟩)],.func (.func 238) #[] #[.pointer (some ⟨gv,0,none⟩),.pointer (some ⟨gp,0,none⟩)],
 .func (.func 239) #[] #[.pointer (some ⟨gv,0,none⟩),.pointer (some ⟨gp,0,none⟩)],.func (.func 241) #[] #[.pointer (some ⟨gv,0,none⟩),.pointer (some ⟨gp,0,none⟩)],.func (.func 243) #[] #[.pointer (some ⟨gp,0,none⟩)]]
theorem mY(v:Int)(p:Pk)(h:Hs)(w:abP)(ip:PkIn w w.heap.size p h)(ok:PkOk p):
  abR 173 #[.int .i64 v,pkV p h] w (.int .i64 (ii v p)):=by
 have x:=aa ok;have r:=(aq w.heap.size w).alloc (ac _) (.cells #[.int .i64 v] 3);have g:Hid (PV w w.heap.size (w.heap.size+1) v p h ((w.alloc (.cells #[.int .i64 v] 3)).alloc (.cells (pkC p h) PkT))):=aa (by
  refine⟨r.alloc r.size _,(Bk.fresh _ _ _).alloc _,?_,((ip.below r).wider r.size).next ((aq _ _).alloc (ac _) _)⟩;have:=Bk.fresh (w.alloc (.cells #[.int .i64 v] 3)) PkT (pkC p h);rwa[ey]at this)
 clear ip ok r;go_enter func173,ntmps173;go_wp2_with fail;have B:Hid (Bk (((w.alloc (.cells #[.int .i64 v] 3)).alloc (.cells (pkC p h) PkT)).alloc (.cells (uZ w.heap.size (w.heap.size+1)) 156)) (w.heap.size+2) 156 (uZ w.heap.size (w.heap.size+1))):=aa (by
  have:=Bk.fresh ((w.alloc (.cells #[.int .i64 v] 3)).alloc (.cells (pkC p h) PkT)) 156 (uZ w.heap.size (w.heap.size+1));rwa[ey,ey]at this)
 have D:=aa (g.o.below ((aq _ _).alloc (ac _) (.cells (uZ w.heap.size (w.heap.size+1)) 156)))
 go_loopw [17] (λi wr=>∃k:Nat,k<=5/\i= .int .i64 k/\(∀j,j<k->dK v p j=0)/\PV w w.heap.size (w.heap.size+1) v p h wr/\Bk wr (w.heap.size+2) 156 (uZ w.heap.size (w.heap.size+1))) (λi _=>5- (intOf i).toNat)
 case atStart=>exact⟨0,by omega,rfl,λj s=>by omega,D.o,B.o⟩
 case round=>
  obtain⟨k,E,rfl,y,A,z⟩:=hrel;have l:=aa y;have SR:=aa A;have c:=aa z
  clear y A z;obtain rfl| rfl| rfl| rfl| rfl| rfl:k=0\/k=1\/k=2\/k=3\/k=4\/k=5:=by omega
  focus
   have f:Hid (dK v p 0≠0->ii v p=dK v p 0):=aa (jx (by omega) l.o);have o:wr.cell? ⟨w.heap.size+2,0,none⟩=some (.func (.func 236) #[] #[.pointer (some ⟨w.heap.size,0,none⟩),.pointer (some ⟨w.heap.size+1,0,none⟩)]):=c.o.cell 0;have q:=Db;go_wp2_with fail;refine Yg (zT w w.heap.size (w.heap.size+1) v p h _ SR.o) λu b=>?_;have g:=aa (SR.o.below b);have m:=aa (Yh c.o b)
   clear b o q;by_cases a:dK v p 0=0
   ·have n:Hid (∀j,j<0+1->dK v p j=0):=aa (λj s=>by
     by_cases d:j=0
     ·rw[d];exact a
     ·exact l.o j (by omega))
    rw[a];clear a f;go_wp2;go_roundw
    case rel=>exact⟨0+1,by omega,by go_num,n.o,g.o,m.o⟩
    case measure=>simp[intOf]
   focus
    have t:(dK v p 0 !=0)=true:=aA.2 a
   rotate_left
  rotate_left
  focus
   have f:Hid (dK v p 1≠0->ii v p=dK v p 1):=aa (jx (by omega) l.o);have o:wr.cell? ⟨w.heap.size+2,1,none⟩=some (.func (.func 238) #[] #[.pointer (some ⟨w.heap.size,0,none⟩),.pointer (some ⟨w.heap.size+1,0,none⟩)]):=c.o.cell 1;have q:=Da;go_wp2_with fail;refine Yg (zS w w.heap.size (w.heap.size+1) v p h _ SR.o) λu b=>?_;have g:=aa (SR.o.below b);have m:=aa (Yh c.o b)
   clear b o q;by_cases a:dK v p 1=0
   ·have n:Hid (∀j,j<1+1->dK v p j=0):=aa (λj s=>by
     by_cases d:j=1
     ·rw[d];exact a
     ·exact l.o j (by omega))
    rw[a];clear a f;go_wp2;go_roundw
    case rel=>exact⟨1+1,by omega,by go_num,n.o,g.o,m.o⟩
    case measure=>simp[intOf]
   focus
    have t:(dK v p 1 !=0)=true:=aA.2 a
   rotate_left
  rotate_left
  focus
   have f:Hid (dK v p 2≠0->ii v p=dK v p 2):=aa (jx (by omega) l.o);have o:wr.cell? ⟨w.heap.size+2,2,none⟩=some (.func (.func 239) #[] #[.pointer (some ⟨w.heap.size,0,none⟩),.pointer (some ⟨w.heap.size+1,0,none⟩)]):=c.o.cell 2;have q:=CZ;go_wp2_with fail;refine Yg (zR w w.heap.size (w.heap.size+1) v p h x.o _ SR.o) λu b=>?_;have g:=aa (SR.o.below b);have m:=aa (Yh c.o b)
   clear b o q;by_cases a:dK v p 2=0
   ·have n:Hid (∀j,j<2+1->dK v p j=0):=aa (λj s=>by
     by_cases d:j=2
     ·rw[d];exact a
     ·exact l.o j (by omega))
    rw[a];clear a f;go_wp2;go_roundw
    case rel=>exact⟨2+1,by omega,by go_num,n.o,g.o,m.o⟩
    case measure=>simp[intOf]
   focus
    have t:(dK v p 2 !=0)=true:=aA.2 a
   rotate_left
  rotate_left
  focus
   have f:Hid (dK v p 3≠0->ii v p=dK v p 3):=aa (jx (by omega) l.o);have o:wr.cell? ⟨w.heap.size+2,3,none⟩=some (.func (.func 241) #[] #[.pointer (some ⟨w.heap.size,0,none⟩),.pointer (some ⟨w.heap.size+1,0,none⟩)]):=c.o.cell 3;have q:=CY;go_wp2_with fail;refine Yg (zQ w w.heap.size (w.heap.size+1) v p h x.o _ SR.o) λu b=>?_;have g:=aa (SR.o.below b);have m:=aa (Yh c.o b)
   clear b o q;by_cases a:dK v p 3=0
   ·have n:Hid (∀j,j<3+1->dK v p j=0):=aa (λj s=>by
     by_cases d:j=3
     ·rw[d];exact a
     ·exact l.o j (by omega))
    rw[a];clear a f;go_wp2;go_roundw
    case rel=>exact⟨3+1,by omega,by go_num,n.o,g.o,m.o⟩
    case measure=>simp[intOf]
   focus
    have t:(dK v p 3 !=0)=true:=aA.2 a
   rotate_left
  rotate_left
  focus
   have f:Hid (dK v p 4≠0->ii v p=dK v p 4):=aa (jx (by omega) l.o);have o:wr.cell? ⟨w.heap.size+2,4,none⟩=some (.func (.func 243) #[] #[.pointer (some ⟨w.heap.size+1,0,none⟩)]):=c.o.cell 4;have q:=CX;go_wp2_with fail;refine Yg (zP w w.heap.size (w.heap.size+1) v p h x.o _ SR.o) λu b=>?_;have g:=aa (SR.o.below b);have m:=aa (Yh c.o b)
   clear b o q;by_cases a:dK v p 4=0
   ·have n:Hid (∀j,j<4+1->dK v p j=0):=aa (λj s=>by
     by_cases d:j=4
     ·rw[d];exact a
     ·exact l.o j (by omega))
    rw[a];clear a f;go_wp2;go_roundw
    case rel=>exact⟨4+1,by omega,by go_num,n.o,g.o,m.o⟩
    case measure=>simp[intOf]
   focus
    have t:(dK v p 4 !=0)=true:=aA.2 a
   rotate_left
  rotate_left
  ·have f:=aa (uP l.o);go_wp2;go_ret;exact⟨by rw[f.o];rfl,SR.o.kept⟩
  all_goals
   have C:=aa (f.o a);clear a f;go_wp2;go_ret;exact⟨by rw[C.o];rfl,g.o.kept⟩
def IM(s:abO):abO×Int:=if YF s=true then(cQ s,0)else(⟨#[]⟩,6)
theorem UW(s:abO)(w:abP)(hs:s.size<=4611686018427387904):
  abR 161 #[.string s] w (.tuple #[.string (IM s).1,.int .i64 (IM s).2]):=by
 go_enter func161,ntmps161;go_wp2_with fail;refine Yg (fk s _ hs) λh a=>?_;have c:=aa a;clear a
 cases b:YF s
 ·have d:Hid (IM s=(⟨#[]⟩,6)):=aa (by unfold IM;rw[Fl (by rw[b];decide)]);clear b;go_wp2;go_ret2;exact⟨by rw[d.o];rfl,c.o⟩
 ·have d:Hid (IM s=(cQ s,0)):=aa (by unfold IM;rw[if_pos b]);have g:=aa (gL b);clear b;go_wp2_with fail;refine Yg (xi s _ g.out) λi a=>?_;have f:=aa (Yf c.o a);clear a
  go_wp2;go_ret2;exact⟨by rw[d.o];rfl,f.o⟩
def BH(p:Pk):abO:=if p.qos≠0 then cQ p.topic++⟨(Yk p.id.toNat 2).toArray⟩else cQ p.topic
def ys(v:Int)(p:Pk):abO:=if v=5 then BH p++⟨(aM p.kind p.props).1.toArray⟩else BH p
def Gf(v:Int)(p:Pk):abO×Int:=if ii v p=0 then(ys v p++p.payload,0)else(⟨#[]⟩,ii v p)
structure PubGood (v:Int) (p:Pk):Prop where
 k:v=4\/v=5
 kind:p.kind=3
 flags:tJ p=false
 same:p=zA p
 old:v=4->p.props=[]
 id0:p.qos=0->p.id=0
 id1:p.qos≠0->0<p.id/\p.id<65536
 named:tc v p=true
 topic:YF p.topic=true
 bytes:(aM 3 p.props).2=0
theorem tV:YF ⟨#[]⟩=true:=by decide+kernel
theorem zB(x:ii v p=0):PubGood v p:=by
 have h:∀j,j<5->dK v p j=0:=by
  intro j A;refine aU.1 λa=>?_;by_cases b:dK v p 0=0
  ·by_cases c:dK v p 1=0
   ·by_cases d:dK v p 2=0
    ·by_cases f:dK v p 3=0
     ·have e:ii v p=dK v p 4:=by unfold ii;rw[Fl (λy=>y b),Fl (λy=>y c),Fl (λy=>y d),Fl (λy=>y f)]
      obtain rfl| rfl| rfl| rfl| rfl:j=0\/j=1\/j=2\/j=3\/j=4:=by omega
      ·exact a b
      ·exact a c
      ·exact a d
      ·exact a f
      ·exact a (e▸x)
     ·rw[jx (k:=3) (by omega) (fun i l=>by obtain rfl| rfl| rfl:i=0\/i=1\/i=2:=by omega
                                           all_goals assumption) f]at x
      exact f x
    ·rw[jx (k:=2) (by omega) (fun i l=>by obtain rfl| rfl:i=0\/i=1:=by omega
                                          all_goals assumption) d]at x
     exact d x
   ·rw[jx (k:=1) (by omega) (fun i l=>by obtain rfl:i=0:=by omega
                                         assumption) c]at x
    exact c x
  ·rw[jx (k:=0) (by omega) (λi l=>by omega) b]at x;exact b x
 have B:=h 0 (by omega);have C:=h 1 (by omega);have D:=h 2 (by omega);have E:=h 3 (by omega);have z:(aM 3 p.props).2=0:=h 4 (by omega);have g:YG v=true/\p.kind=3:=aU.1 λy=>by
  have:dK v p 0=2:=Fl y;omega
 have u:v=4\/v=5:=aR g.1;have t:tJ p=false:=by
  cases e:tJ p
  ·rfl
  ·have m:dS v p.kind=true:=au (by omega);have:dK v p 1=7:=by
    show(eM v p).2=7;unfold eM;rw[Fl (λy=>by rw[g.1]at y;cases y),Fl (λy=>by rw[m]at y;cases y),Fl (λy=>y g.2),if_pos e]
   omega
 have s:kL v p=true:=aU.1 λy=>by
  have:dK v p 2=2:=Fl y;omega
 have a:tc v p=true:=aU.1 λy=>by
  have:dK v p 3=10:=Fl y;omega
 obtain⟨f1,n,o,q⟩:=aR s;refine⟨u,g.2,t,f1,λr=>?_,o,q,a,?_,z⟩
 ·have:¬0<p.props.length:=λy=>n ⟨r,y⟩;exact aF (by omega)
 ·unfold tc at a;rcases Bool.or_eq_true_iff.1 a with a| a
  ·unfold fp jY at a;simp at a;exact a.1.2
  ·have w:p.topic.size=0:=aR (Bool.and_eq_true_iff.1 (Bool.and_eq_true_iff.1 a).2).2;have:p.topic=⟨#[]⟩:=eX (by rw[show ls (⟨#[]⟩:abO)=[]from rfl];exact aF (by rw[aN];exact w));rw[this];exact tV
theorem Va(v:Int)(p:Pk)(h:Hs)(w:abP)(ip:PkIn w w.heap.size p h)(ok:PkOk p):
  abR 108 #[.int .i64 v,pkV p h] w (.tuple #[.string (Gf v p).1,.int .i64 (Gf v p).2]):=by
 have o:=aa ok;have J:=aa ((St.start w).push ip);have Q:Hid (Gf v p=if ii v p=0 then(ys v p++p.payload,0)else(⟨#[]⟩,ii v p)):=aa rfl;have t:Hid (ys v p=if v=5 then BH p++⟨(aM p.kind p.props).1.toArray⟩else BH p):=aa rfl;have I:Hid (BH p=if p.qos≠0 then cQ p.topic++⟨(Yk p.id.toNat 2).toArray⟩else cQ p.topic):=aa rfl;clear ip ok;have hl:=J.o.ld 0 rfl;go_enter func108,ntmps108;go_wp2_with fail;refine Yg (mY v p h _ (J.o.into 0 rfl) o.o) λw1 b=>?_;have K:=aa (J.o.below b);clear b hl
 by_cases q:ii v p=0;rotate_left
 ·have e0:(ii v p !=0)=true:=aA.2 q;have n:Hid (Gf v p=(⟨#[]⟩,ii v p)):=aa (by rw[Q.o,Fl q]);clear q;go_wp2;go_ret2;exact⟨by rw[n.o];rfl,K.o.kept⟩
 have n:Hid (Gf v p=(ys v p++p.payload,0)):=aa (by rw[Q.o,if_pos q]);have G:=aa (zB q);rw[q];have HB:=aa (G6 3 p.props G.o.bytes).2;have HT:=aa (gL G.o.topic);have k1:=K.o.cell 0 rfl 5;rw[di]at k1;clear q;go_wp2_with fail;refine Yg (UW p.topic _ (by have:=o.o.texts.1;omega)) λw2 b=>?_;have g:=aa (K.o.below b);clear b k1
 rw[show IM p.topic=(cQ p.topic,0)from if_pos G.o.topic];simp only;have u:(cQ p.topic).size<=65537:=by rw[eN];have:=HT.o;omega
 obtain⟨T,U⟩:∃T,cQ p.topic=T:=⟨_,rfl⟩;rw[U]at u I⊢;have f:=aa u;obtain⟨Y,E⟩:∃Y:abO,p.payload=Y:=⟨_,rfl⟩;have B:Hid (Y.size<=140737488351232):=aa (by rw[<-E];exact o.o.texts.2.1);obtain⟨Z,F⟩:∃Z:abO,(⟨(aM p.kind p.props).1.toArray⟩:abO)=Z:=⟨_,rfl⟩;have C:Hid (Z.size<=131075004):=aa (by rw[<-F,GW,G.o.kind];exact HB.o);have H:=aa F;rw[F]at t;rw[E]at n;have s:=aa E;clear U u E F;have M:=g.o.cell 0 rfl 3;rw[dt]at M;have N:=g.o.cell 0 rfl 4;rw[dj]at N;by_cases k:p.qos=0
 ·have eq:(p.qos !=0)=false:=by simpa using k
  have j:Hid (BH p=T):=aa (by rw[I.o,Fl (λy=>y k)]);clear k N;by_cases d:v=5
  ·have L:(v==5)=true:=aK.2 d;have l:Hid (Gf v p=(T++Z++Y,0)):=aa (by rw[n.o,t.o,if_pos d,j.o]);have z:=g.o.cell 0 rfl 0;rw[cI]at z;have A:=g.o.cell 0 rfl 24;rw[bR]at A;clear d;go_wp2_with fail;refine Yg (UB p.kind p.props _ rfl o.o.props h.props.a h.props.c _ (g.o.into 0 rfl).props o.o.len.2.2.2) λP b=>?_;have i:=aa (g.o.below b);clear b M z A
   rw[H.o];have O:P.cell? ⟨w.heap.size,6,none⟩=some (.string Y):=by rw[<-s.o];exact i.o.cell 0 rfl 6
   have x:¬(9223372036854775807<T.size+Z.size):=by have:=f.o;have:=C.o;omega
   have W:¬(9223372036854775807<T.size+Z.size+Y.size):=by have:=f.o;have:=C.o;have:=B.o;omega
   go_wp2;go_ret2;exact⟨by rw[l.o];rfl,i.o.kept⟩
  ·have L:(v==5)=false:=ar.2 d;have l:Hid (Gf v p=(T++Y,0)):=aa (by rw[n.o,t.o,Fl d,j.o]);have O:w2.cell? ⟨w.heap.size,6,none⟩=some (.string Y):=by rw[<-s.o];exact g.o.cell 0 rfl 6
   have x:¬(9223372036854775807<T.size+Y.size):=by have:=f.o;have:=B.o;omega
   clear d;go_wp2;go_ret2;exact⟨by rw[l.o];rfl,g.o.kept⟩
 ·have eq:(p.qos !=0)=true:=aA.2 k;obtain⟨m,V,ai⟩:∃m:Nat,Hid (p.id.toNat=m)/\IntKind.u64.wrap p.id=(m:Int):=⟨_,aa rfl,by rw[iZ];have:=G.o.id1 k;omega⟩;have HM:Hid (m<65536):=aa (by have:=V.out;have:=G.o.id1 k;omega);obtain⟨X,D⟩:∃X:abO,(⟨(Yk m 2).toArray⟩:abO)=X:=⟨_,rfl⟩;have R:=aa D;have r:Hid (X.size=2):=aa (by rw[<-D,GW,fM]);have j:Hid (BH p=T++X):=aa (by rw[I.o,if_pos k,V.out,D]);clear k D;go_wp2_with fail;refine Yg (pD m 2 _ (by have:=HM.o;omega) (by omega) (by omega)) λP b=>?_;have i:=aa (g.o.below b);clear b M N
  rw[R.o];have hs0:¬(9223372036854775807<T.size+X.size):=by have:=f.o;have:=r.o;omega
  by_cases d:v=5
  ·have L:(v==5)=true:=aK.2 d;have l:Hid (Gf v p=(T++X++Z++Y,0)):=aa (by rw[n.o,t.o,if_pos d,j.o]);have z:=i.o.cell 0 rfl 0;rw[cI]at z;have A:=i.o.cell 0 rfl 24;rw[bR]at A;clear d;go_wp2_with fail;refine Yg (UB p.kind p.props _ rfl o.o.props h.props.a h.props.c _ (i.o.into 0 rfl).props o.o.len.2.2.2) λw4 b=>?_;have S:=aa (i.o.below b);clear b z A
   rw[H.o];have O:w4.cell? ⟨w.heap.size,6,none⟩=some (.string Y):=by rw[<-s.o];exact S.o.cell 0 rfl 6
   have x:¬(9223372036854775807<T.size+X.size+Z.size):=by have:=f.o;have:=r.o;have:=C.o;omega
   have W:¬(9223372036854775807<T.size+X.size+Z.size+Y.size):=by have:=f.o;have:=r.o;have:=C.o;have:=B.o;omega
   go_wp2;go_ret2;exact⟨by rw[l.o];rfl,S.o.kept⟩
  ·have L:(v==5)=false:=ar.2 d;have l:Hid (Gf v p=(T++X++Y,0)):=aa (by rw[n.o,t.o,Fl d,j.o]);have O:P.cell? ⟨w.heap.size,6,none⟩=some (.string Y):=by rw[<-s.o];exact i.o.cell 0 rfl 6
   have x:¬(9223372036854775807<T.size+X.size+Y.size):=by have:=f.o;have:=r.o;have:=B.o;omega
   clear d;go_wp2;go_ret2;exact⟨by rw[l.o];rfl,i.o.kept⟩
theorem xH:bits BinOp.and IntKind.i64 0 6=0/\bits BinOp.and IntKind.i64 1 6=0/\bits BinOp.and IntKind.i64 2 6=2/\bits BinOp.and IntKind.i64 3 6=2/\bits BinOp.and IntKind.i64 4 6=4/\bits BinOp.and IntKind.i64 5 6=4/\bits BinOp.and IntKind.i64 6 6=6/\bits BinOp.and IntKind.i64 7 6=6/\bits BinOp.and IntKind.i64 8 6=0/\bits BinOp.and IntKind.i64 9 6=0/\bits BinOp.and IntKind.i64 10 6=2/\bits BinOp.and IntKind.i64 11 6=2/\bits BinOp.and IntKind.i64 12 6=4/\bits BinOp.and IntKind.i64 13 6=4/\bits BinOp.and IntKind.i64 14 6=6/\bits BinOp.and IntKind.i64 15 6=6:=by decide+kernel
theorem xG:bits BinOp.and IntKind.i64 0 8=0/\bits BinOp.and IntKind.i64 1 8=0/\bits BinOp.and IntKind.i64 2 8=0/\bits BinOp.and IntKind.i64 3 8=0/\bits BinOp.and IntKind.i64 4 8=0/\bits BinOp.and IntKind.i64 5 8=0/\bits BinOp.and IntKind.i64 6 8=0/\bits BinOp.and IntKind.i64 7 8=0/\bits BinOp.and IntKind.i64 8 8=8/\bits BinOp.and IntKind.i64 9 8=8/\bits BinOp.and IntKind.i64 10 8=8/\bits BinOp.and IntKind.i64 11 8=8/\bits BinOp.and IntKind.i64 12 8=8/\bits BinOp.and IntKind.i64 13 8=8/\bits BinOp.and IntKind.i64 14 8=8/\bits BinOp.and IntKind.i64 15 8=8:=by decide+kernel
def gd(f:Int):Bool:=decide (f=0\/f=1\/f=2\/f=3\/f=4\/f=5\/f=10\/f=11\/f=12\/f=13)
theorem oQ(f:Int)(w:abP):abT 60 #[.int .i64 3,.int .i64 f] w (.bool (gd f)):=by
 by_cases b:f<0
 ·have a:Hid (gd f=false):=aa (ah (by omega));go_enter func60,ntmps60;go_wp2;go_ret;exact⟨by rw[a.o];rfl,rfl⟩
 by_cases c:15<f
 ·have a:Hid (gd f=false):=aa (ah (by omega));have J:decide (f<0)=false:=ah b;clear b;go_enter func60,ntmps60;go_wp2;go_ret;exact⟨by rw[a.o];rfl,rfl⟩
 obtain⟨r,s,t,u,v,x,y,z,A,B,d,g,h,i,j,k⟩:=xH;obtain⟨b0,b1,b2,C,D,E,F,G,H,I,l,m,n,o,p,q⟩:=xG;obtain rfl| rfl| rfl| rfl| rfl| rfl| rfl| rfl| rfl| rfl| rfl| rfl| rfl| rfl| rfl| rfl:f=0\/f=1\/f=2\/f=3\/f=4\/f=5\/f=6\/f=7\/f=8\/f=9\/f=10\/f=11\/f=12\/f=13\/f=14\/f=15:=by omega
 all_goals
  clear b c;go_enter func60,ntmps60;go_wp2;go_ret;exact⟨rfl,rfl⟩
theorem zg(w:abP):abR 61 #[.int .i64 0] w (.int .i64 1):=by
 have b:=aa (aq w.heap.size w);go_enter func61,ntmps61;go_wp2_with fail;refine(qm 0 _).mono ?_;rintro e d ⟨rfl,rfl⟩;have c:wT 0=true:=by decide
 go_wp2
 go_loopw [0,3] (λv o wr=>v= .int .i64 0/\o= .int .i64 1/\abQ w wr) (λ_ _ _=>0)
 case atStart=>exact⟨rfl,rfl,b.o⟩
 case round=>
  obtain⟨rfl,rfl,a⟩:=hrel;clear c;go_wp2;go_ret;exact⟨rfl,a⟩
def eJ(v f:Int):Int:=if YG v=false then 2 else if gd f=false then 7 else 0
theorem tm(v f:Int)(w:abP):abR 44 #[.int .i64 v,.agg #[.int .i64 3,.int .i64 f,.int .i64 0]] w (.int .i64 (eJ v f)):=by
 have g:Hid (eJ v f=if YG v=false then 2 else if gd f=false then 7 else 0):=aa rfl;have d:=aa ((aq w.heap.size w).alloc (ac _) (.cells #[.int .i64 3,.int .i64 f,.int .i64 0] 61));go_enter func44,ntmps44;go_wp2_with fail;refine(j9 v _).mono ?_;rintro e h ⟨rfl,rfl⟩;cases a:YG v
 ·have c:Hid (eJ v f=2):=aa (by rw[g.o,if_pos a]);clear a;go_wp2;go_ret;exact⟨by rw[c.o];rfl,d.o⟩
 have b:Hid (eJ v f=if gd f=false then 7 else 0):=aa (by rw[g.o,Fl (λx=>by rw[a]at x;cases x)]);have k:dS v 3=true:=au (by omega);clear a g;have l:(w.alloc (.cells #[.int .i64 3,.int .i64 f,.int .i64 0] 61)).cell? ⟨w.heap.size,0,none⟩=some (.int .i64 3):=(Bk.fresh w 61 _).cell 0;have m:(w.alloc (.cells #[.int .i64 3,.int .i64 f,.int .i64 0] 61)).cell? ⟨w.heap.size,1,none⟩=some (.int .i64 f):=(Bk.fresh w 61 _).cell 1;have n:(w.alloc (.cells #[.int .i64 3,.int .i64 f,.int .i64 0] 61)).cell? ⟨w.heap.size,2,none⟩=some (.int .i64 0):=(Bk.fresh w 61 _).cell 2;go_wp2_with fail;refine(lD v 3 _).mono ?_;rintro e h ⟨rfl,rfl⟩;go_wp2_with fail;refine(oQ f _).mono ?_;rintro e h ⟨rfl,rfl⟩;cases a:gd f
 ·have c:Hid (eJ v f=7):=aa (by rw[b.o,if_pos a]);clear a;go_wp2;go_ret;exact⟨by rw[c.o];rfl,d.o⟩
 have c:Hid (eJ v f=0):=aa (by rw[b.o,Fl (λx=>by rw[a]at x;cases x)]);clear a b;go_wp2_with fail;refine Yg (zg _) λh j=>?_;have i:=aa (Yf d.o j);clear j
 go_wp2;go_ret;exact⟨by rw[c.o];rfl,i.o⟩
end
