/- Parts: LmA. -/
import Derived.Test.YtafoknnjekegkaaGreatDoorLqG0PkR
set_option maxRecDepth 10000
set_option maxHeartbeats 8000000
namespace Go.Proofs.YtafoknnjekegkaaGreatDoor
open Go.RowKit Go.Proofs.Tryz
theorem XW(t:abO)(a n:Nat):(t.extract 0 (a+n)).extract a (a+n)=t.extract a (a+n):=eX (by
 rw[Ym,Ym,ix,List.drop_take,Nat.add_sub_cancel_left,List.take_take,Nat.min_self])
theorem XC(s:abO)(a q:Nat):(s.extract a s.size).extract q (s.extract a s.size).size=s.extract (a+q) s.size:=eX (by
 rw[Y9,Y9,Y9,ab2])
theorem XP{v:Int}{t:abO}(h0:(hdR v t).2.2=0)(hz:hdZ v t<=t.size):mqR v (t.extract 0 (hdZ v t))=mqR v t:=by
 have e:=ED h0 (z:=hdZ v t) (iX _ _);have d:(t.extract 0 (hdZ v t)).size=hdZ v t:=by rw[aj];omega
 have a:¬((t.extract 0 (hdZ v t)).size<(hdR v t).2.1+(hdR v t).1.n):=by rw[d];exact WQ _
 have b:¬(t.size<(hdR v t).2.1+(hdR v t).1.n):=Nat.not_lt.2 hz;have c:(t.extract 0 (hdZ v t)).extract (hdR v t).2.1 ((hdR v t).2.1+(hdR v t).1.n)=t.extract (hdR v t).2.1 ((hdR v t).2.1+(hdR v t).1.n):=XW t _ _;have f:mqR v (t.extract 0 (hdZ v t))=if(chR v (hdR v t).1 (t.extract (hdR v t).2.1 ((hdR v t).2.1+(hdR v t).1.n))).2=0 then((chR v (hdR v t).1 (t.extract (hdR v t).2.1 ((hdR v t).2.1+(hdR v t).1.n))).1,(hdR v t).2.1+(hdR v t).1.n,0)
   else(pk0,0,if(chR v (hdR v t).1 (t.extract (hdR v t).2.1 ((hdR v t).2.1+(hdR v t).1.n))).2=3 then 5 else(chR v (hdR v t).1 (t.extract (hdR v t).2.1 ((hdR v t).2.1+(hdR v t).1.n))).2):=by
  unfold mqR;rw[e,Fl (λx=>x h0),Fl a,c]
 rw[f];unfold mqR;rw[Fl (λx=>x h0:¬(hdR v t).2.2≠0),Fl b]
theorem W7(v most:Int)(t:abO):smN v most t=if(hdR v t).2.2≠0 then(pk0,0,(hdR v t).2.2)else if most<(hdZ v t:Nat)then(pk0,0,4)else mqR v t:=by
 rw[nI];by_cases a:(hdR v t).2.2≠0
 ·rw[if_pos a,if_pos a]
 rw[Fl a,Fl a];by_cases b:most<(hdZ v t:Nat)
 ·rw[if_pos b,if_pos b]
 rw[Fl b,Fl b];by_cases c:t.size<hdZ v t
 ·rw[if_pos c];unfold mqR;rw[Fl a];exact(if_pos c).symm
 ·rw[Fl c,XP (il.1 a) (by omega)]
def WZ(mp md:Int):Bool:=decide (16<=mp/\mp<=1048576/\0<=md/\md<=32)
theorem WM(v mp md:Int):nF v mp md=(YG v&&WZ mp md):=rfl
def lmC(mp md:Int):Int:=if WZ mp md=true then 0 else 2
theorem Xp{mp md:Int}(h:WZ mp md=true):lmC mp md=0:=if_pos h
theorem Xd{mp md:Int}(h:¬WZ mp md=true):lmC mp md=2:=Fl h
def lmS(v mp md:Int)(s:abO):List Pk×Nat×Int:=if nF v mp md=true then((smG v mp s 0 0 []).1,(smG v mp s 0 0 []).2.2.1,(smG v mp s 0 0 []).2.2.2.2)else([],0,2)
def WL(v mp md:Int)(p:Pk):Bool:=WZ mp md&&(decide ((mqB v p).2=0)&&decide (((mqB v p).1.size:Int)<=mp))
theorem XN{v mp:Int}{s:abO}{a n:Nat}{l:List Pk}{RES:List Pk×Nat×Int}(hF:RES=((smG v mp (s.extract a s.size) a n l).1,(smG v mp (s.extract a s.size) a n l).2.2.1,(smG v mp (s.extract a s.size) a n l).2.2.2.2)){P:Pk}{q:Nat}{E:Int}(hR:smN v mp (s.extract a s.size)=(P,q,E)):
  (E=3->RES=(l,a,0))/\(E≠0->E≠3->RES=(l,a,E))/\(E=0->(2<=q/\a+q<=s.size\/s.size<a)/\RES=((smG v mp (s.extract (a+q) s.size) (a+q) (n+1) (l++[P])).1,(smG v mp (s.extract (a+q) s.size) (a+q) (n+1) (l++[P])).2.2.1,(smG v mp (s.extract (a+q) s.size) (a+q) (n+1) (l++[P])).2.2.2.2)):=by
 have b:=jD (v:=v) (most:=mp) (t:=s.extract a s.size);rw[fK,hR]at hF;rw[hR]at b;dsimp only at hF b;rw[XC]at hF;refine⟨λh=>?_,λc d=>?_,λh=>?_⟩
 ·rw[Fl (by rw[h];decide),if_pos h]at hF;exact hF
 ·rw[Fl c,Fl d]at hF;exact hF
 ·have:=b h;rw[aj]at this;rw[if_pos h]at hF;exact⟨by omega,hF⟩
