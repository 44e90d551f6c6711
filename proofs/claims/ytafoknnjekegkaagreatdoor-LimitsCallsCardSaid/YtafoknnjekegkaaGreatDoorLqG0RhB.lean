/- Parts: RhB, Rlm, MsC, OpenK, MqK, PkS, MqL, MsF, MsG, LcA, LimA, LcP. -/
import Derived.Test.YtafoknnjekegkaaGreatDoorLqG0MSubR
import Derived.OwnWalk
import Derived.Test.YtafoknnjekegkaaGreatDoorLqG0LmA
import Derived.Shelf.Sort.Plain
import Derived.Shelf.SlicesE.DeleteFunc
import Derived.Sort.OwnSortedInts
import Derived.Shelf.Slices.In.SortNone
set_option maxRecDepth 10000
set_option maxHeartbeats 8000000
namespace Go.Proofs.YtafoknnjekegkaaGreatDoor
open Go.RowKit Go.Proofs.Tryz
section
theorem Kf(v:Int)(p:Pk)(h:Hs)(w:abP)(ip:PkIn w w.heap.size p h)(ok:PkOk p)(hk:1<=p.kind):
  abR 84 #[.int .i64 v,pkV p h] w (.int .i64 (chE v p)):=by
 have c:=aa ok;have q:=aa hk
 have a:=aa ((St.start w).push ip);have j:=a.o.cell 0 rfl 0;have o:=a.o.ld 0 rfl;simp only[cI]at j;clear ip ok hk;by_cases d:p.kind<=2
 focus
  have b:Hid (chE v p=eR v p):=aa (by unfold chE;rw[if_pos (by omega)]);have s:p.kind<=2:=by omega
  clear d;go_enter func84,ntmps84;go_wp2_with fail;refine(Ic v p h _ (a.o.into 0 rfl) c.o).mono ?_
 rotate_left;by_cases f:p.kind=3
 focus
  have b:Hid (chE v p=ii v p):=aa (by unfold chE;rw[Fl (by omega),if_pos (by omega)]);have g:2<p.kind:=by omega
  have t:(p.kind==3)=true:=aK.2 (by omega);clear d f;go_enter func84,ntmps84;go_wp2_with fail;refine(IW v p h _ (a.o.into 0 rfl) c.o).mono ?_
 rotate_left;by_cases i:p.kind<=7
 focus
  have b:Hid (chE v p=eS v p):=aa (by unfold chE;rw[Fl (by omega),Fl (by omega),if_pos (by omega)]);have g:2<p.kind:=by omega
  have f1:(p.kind==3)=false:=ar.2 (by omega);have u:p.kind<=7:=by omega
  clear d f i;go_enter func84,ntmps84;go_wp2_with fail;refine(IZ v p h _ (a.o.into 0 rfl) c.o).mono ?_
 rotate_left;by_cases l:p.kind<=11
 focus
  have b:Hid (chE v p=sbE v p):=aa (by unfold chE;rw[Fl (by omega),Fl (by omega),Fl (by omega),if_pos (by omega)]);have g:2<p.kind:=by omega
  have f1:(p.kind==3)=false:=ar.2 (by omega);have n:7<p.kind:=by omega
  have x:p.kind<=11:=by omega
  clear d f i l;go_enter func84,ntmps84;go_wp2_with fail;refine(Kh v p h _ (a.o.into 0 rfl) c.o).mono ?_
 rotate_left;have b:Hid (chE v p=fH v p):=aa (by unfold chE;rw[Fl (by omega),Fl (by omega),Fl (by omega),Fl (by omega)]);have g:2<p.kind:=by omega
 have f1:(p.kind==3)=false:=ar.2 (by omega);have n:7<p.kind:=by omega
 have r:11<p.kind:=by omega
 clear d f i l;go_enter func84,ntmps84;go_wp2_with fail;refine(IY v p h _ (a.o.into 0 rfl) c.o).mono ?_
 all_goals
  rintro e y ⟨rfl,k⟩;have m:=aa (a.o.below k);clear k o j
  go_wp2;go_ret;exact⟨by rw[b.o];rfl,m.o.kept⟩
theorem KM(v:Int)(p:Pk)(h:Hs)(w:abP)(ip:PkIn w w.heap.size p h)(ok:PkOk p)(hz:MV v p)(hk:1<=p.kind):
  abR 85 #[.int .i64 v,pkV p h] w (.string (chB v p).1):=by
 have c:=aa ok;have s:=aa hk
 have a:=aa ((St.start w).push ip);have n:=aa hz;have k:=a.o.cell 0 rfl 0;have r:=a.o.ld 0 rfl;simp only[cI]at k;clear ip ok hk hz;by_cases d:p.kind<=2
 focus
  have b:Hid ((chB v p).1=(Dm v p).1):=aa (by unfold chB;rw[if_pos (by omega)]);have u:p.kind<=2:=by omega
  clear d;go_enter func85,ntmps85;go_wp2_with fail;refine(Ls v p h _ (a.o.into 0 rfl) c.o).mono ?_
 rotate_left;by_cases f:p.kind=3
 focus
  have b:Hid ((chB v p).1=(Gf v p).1):=aa (by unfold chB;rw[Fl (by omega),if_pos (by omega)]);have g:2<p.kind:=by omega
  have x:(p.kind==3)=true:=aK.2 (by omega);clear d f;go_enter func85,ntmps85;go_wp2_with fail;refine(JV v p h _ (a.o.into 0 rfl) c.o).mono ?_
 rotate_left;by_cases i:p.kind<=7
 focus
  have b:Hid ((chB v p).1=⟨(Ga v p).1.toArray⟩):=aa (by unfold chB;rw[Fl (by omega),Fl (by omega),if_pos (by omega)]);have g:2<p.kind:=by omega
  have f1:(p.kind==3)=false:=ar.2 (by omega);have y:p.kind<=7:=by omega
  clear d f i;go_enter func85,ntmps85;go_wp2_with fail;refine(Yt v p h _ (a.o.into 0 rfl) c.o).mono ?_
 rotate_left;by_cases m:p.kind<=11
 focus
  have b:Hid ((chB v p).1=(sbB v p).1):=aa (by unfold chB;rw[Fl (by omega),Fl (by omega),Fl (by omega),if_pos (by omega)]);have g:2<p.kind:=by omega
  have f1:(p.kind==3)=false:=ar.2 (by omega);have q:7<p.kind:=by omega
  have z:p.kind<=11:=by omega
  have j:=n.o (by omega);clear d f i m;go_enter func85,ntmps85;go_wp2_with fail;refine(Nn v p h _ (a.o.into 0 rfl) c.o j).mono ?_
 rotate_left;have b:Hid ((chB v p).1=⟨(Yq v p).1.toArray⟩):=aa (by unfold chB;rw[Fl (by omega),Fl (by omega),Fl (by omega),Fl (by omega)]);have g:2<p.kind:=by omega
 have f1:(p.kind==3)=false:=ar.2 (by omega);have q:7<p.kind:=by omega
 have t:11<p.kind:=by omega
 clear d f i m;go_enter func85,ntmps85;go_wp2_with fail;refine(Kc v p h _ (a.o.into 0 rfl) c.o).mono ?_
 all_goals
  rintro e A ⟨rfl,l⟩;have o:=aa (a.o.below l);clear l r k
  go_wp2;go_ret;exact⟨by rw[b.o];rfl,o.o.kept⟩
def whS(v:Int)(p:Pk):abO×Int:=if mqE v p=0 then((chB v p).1,0)else(⟨#[]⟩,mqE v p)
theorem Ke(v:Int)(p:Pk)(h:Hs)(w:abP)(ip:PkIn w w.heap.size p h)(ok:PkOk p)(hz:MV v p):
  abR 53 #[.int .i64 v,pkV p h] w (.tuple #[.string (whS v p).1,.int .i64 (whS v p).2]):=by
 have C:=aa ok;have I:=aa hz
 have c:=aa ((St.start w).push ip);have b:Hid (∀x,mqE v p=x->x≠0->whS v p=(⟨#[]⟩,x)):=aa (λx F K=>by unfold whS;rw[Fl (by rw[F];exact K),F]);have t:Hid (mqE v p=if YG v=false then 2 else if dS v p.kind=false then 8 else if chE v p≠0 then chE v p else if 268435455<(chB v p).1.size then 4 else 0):=aa rfl;clear ip ok hz;go_enter func53,ntmps53;go_wp2_with fail;refine(pS v _).mono ?_;rintro e Q ⟨rfl,rfl⟩;cases f:YG v
 ·have a:Hid (whS v p=(⟨#[]⟩,2)):=aa (b.o 2 (by rw[t.o,if_pos f]) (by decide));clear f;go_wp2;go_ret2;exact⟨by rw[a.o];rfl,c.o.kept⟩
 have m:Hid (mqE v p=if dS v p.kind=false then 8 else if chE v p≠0 then chE v p else if 268435455<(chB v p).1.size then 4 else 0):=aa (by rw[t.o,Fl (by rw[f];decide)]);have H:Hid (v=4\/v=5):=aa (aR (show decide (v=4\/v=5)=true from f));have n:Hid (dS v p.kind=decide (1<=p.kind/\(p.kind<=14\/(p.kind=15/\v=5)))):=aa rfl;clear f t;have u:=c.o.cell 0 rfl 0;simp only[cI]at u;cases l:dS v p.kind
 ·have a:Hid (whS v p=(⟨#[]⟩,8)):=aa (b.o 8 (by rw[m.o,if_pos l]) (by decide));have j:¬(1<=p.kind/\(p.kind<=14\/(p.kind=15/\v=5))):=Gy (n.o.symm.trans l);have f:=H.o;have k:p.kind<1\/(1<=p.kind/\15<p.kind)\/(p.kind=15/\v=4):=by omega
  clear l j f;rcases k with k| ⟨k,y⟩ | ⟨k,y⟩
  ·go_wp2;go_ret2;exact⟨by rw[a.o];rfl,c.o.kept⟩
  ·go_wp2;go_ret2;exact⟨by rw[a.o];rfl,c.o.kept⟩
  ·rw[k]at u;have N:(v==4)=true:=aK.2 y;clear k y;go_wp2;go_ret2;exact⟨by rw[a.o];rfl,c.o.kept⟩
 have g:Hid (mqE v p=if chE v p≠0 then chE v p else if 268435455<(chB v p).1.size then 4 else 0):=aa (by rw[m.o,Fl (by rw[l];decide)]);have j:1<=p.kind/\(p.kind<=14\/(p.kind=15/\v=5)):=aR (n.o.symm.trans l);have s:Hid (1<=p.kind):=aa j.1;have O:1<=p.kind:=by omega
 have P:p.kind<=15:=by omega
 have B:(p.kind==15&&v==4)=false:=by
  rw[Kz];by_cases e:p.kind=15
  ·exact .inr (ar.2 (by omega))
  ·exact .inl (ar.2 e)
 have z:=c.o.ld 0 rfl;clear l j m n;have A:(p.kind==15)=false\/((p.kind==15)=true/\(v==4)=false):=by
  cases e:(p.kind==15)
  ·exact .inl rfl
  ·refine .inr ⟨rfl,?_⟩;rw[e]at B
   simpa using B
 clear B;have G:∀(X:Unit),True:=λ_=>trivial;rcases A with A| ⟨A,L⟩
 all_goals
  go_wp2_with fail;refine Yg (Kf v p h _ (c.o.into 0 rfl) C.o s.o) λR o=>?_;have q:=aa (c.o.below o);clear o z u
  by_cases d:chE v p=0;rotate_left
  ·have a:Hid (whS v p=(⟨#[]⟩,chE v p)):=aa (b.o _ (by rw[g.o,if_pos d]) d);generalize chE v p=E at*;have M:(E !=0)=true:=aA.2 d;clear d g;go_wp2;go_ret2;exact⟨by rw[a.o];rfl,q.o.kept⟩
  have i:Hid (mqE v p=if 268435455<(chB v p).1.size then 4 else 0):=aa (by rw[g.o,Fl (λx=>x d)]);rw[d];clear d g;have z:=q.o.ld 0 rfl;go_wp2_with fail;refine Yg (KM v p h _ (q.o.into 0 rfl) C.o I.o s.o) λS o=>?_;have D:=aa (q.o.below o);clear o z
  by_cases r:268435455<(chB v p).1.size
  ·have a:Hid (whS v p=(⟨#[]⟩,4)):=aa (b.o 4 (by rw[i.o,if_pos r]) (by decide));have J:(268435455:Int)<((chB v p).1.size:Int):=by omega
   clear r i;go_wp2;go_ret2;exact⟨by rw[a.o];rfl,D.o.kept⟩
  ·have a:Hid (whS v p=((chB v p).1,0)):=aa (by unfold whS;rw[if_pos (by rw[i.o,Fl r])]);have J:((chB v p).1.size:Int)<=268435455:=by omega
   clear r i;go_wp2;go_ret2;exact⟨by rw[a.o];rfl,D.o.kept⟩
theorem Qm(v:Int)(p:Pk):(whS v p).2=mqE v p:=by
 unfold whS;split
 ·rename_i h;exact h.symm
 ·rfl
theorem Kg(v:Int)(p:Pk)(h:Hs)(w:abP)(ip:PkIn w w.heap.size p h)(ok:PkOk p)(hz:MV v p):
  abR 38 #[.int .i64 v,pkV p h] w (.tuple #[.string (mqB v p).1,.int .i64 (mqB v p).2]):=by
 have z:=aa ok;have y:=aa hz
 have d:=aa ((St.start w).push ip);clear ip ok hz;have m:=d.o.ld 0 rfl;go_enter func38,ntmps38;go_wp2_with fail;refine Yg (Ke v p h _ (d.o.into 0 rfl) z.o y.o) λF b=>?_;have g:=aa (d.o.below b);clear b m d
 rw[Qm];by_cases a:mqE v p=0;rotate_left
 ·have j:Hid (mqB v p=(⟨#[]⟩,mqE v p)):=aa (by unfold mqB;rw[Fl a]);generalize mqE v p=E at*;have D:(E !=0)=true:=aA.2 a;clear a;go_wp2;go_ret2;exact⟨by rw[j.o];rfl,g.o.kept⟩
 obtain⟨q,r,s,l⟩:=Ol a;obtain⟨f1,o⟩:=Ma q r s;have j:Hid (mqB v p=(mqS v p,0)):=aa (by unfold mqB;rw[if_pos a]);have n:(whS v p).1=(chB v p).1:=by unfold whS;rw[if_pos a]
 have u:Hid (mqS v p=⟨(hdS p.kind (mqF p) (chB v p).1.size).toArray⟩++(chB v p).1):=aa rfl;have i:=aa (λW=>JF v p h W);rw[f1]at i;have c:=aa (λW=>JW v p.kind (mqF p) (chB v p).1.size W l);rw[show hdB v p.kind (mqF p) (chB v p).1.size=(hdS p.kind (mqF p) (chB v p).1.size,0)from if_pos o]at c;have x:Hid ((hdS p.kind (mqF p) (chB v p).1.size).length<=5):=aa (by
  unfold hdS;rw[List.length_append,fM];have:(eP (chB v p).1.size).length<=4:=mO 3 _;omega)
 rw[a,n];simp only[Cx]at c;have t:=aa l;clear a q r s l f1 o n;generalize hdS p.kind (mqF p) (chB v p).1.size=T at*;generalize (chB v p).1=X at*;generalize mqF p=f at*;have m:=g.o.ld 0 rfl;go_wp2_with fail;refine Yg (i.o _) λG b=>?_;have k:=aa (g.o.below b);clear b m g i
 have B:=k.o.cell 0 rfl 0;simp only[cI]at B;go_wp2_with fail;refine Yg (c.o _) λH b=>?_;have A:=aa (k.o.below b);clear b k c
 have C:¬(9223372036854775807<T.length+X.size):=by have:=x.o;have:=t.o;omega
 go_wp2;go_ret2;exact⟨by rw[j.o,u.o];rfl,A.o.kept⟩
theorem UQ(v:Int)(p:Pk)(h:Hs)(w:abP)(ip:PkIn w w.heap.size p h)(ok:PkOk p)(hz:MV v p):
  abR 26 #[.int .i64 v,pkV p h] w (.tuple #[.int .i64 ((mqB v p).1.size:Nat),.int .i64 (mqB v p).2]):=by
 have a:=(aq w.heap.size w).alloc (ac _) (.cells (pkC p h) PkT);have b:=aa a;have d:=aa (Kg v p h _ (ip.next a) ok hz);clear ip ok hz a;go_enter func26,ntmps26;go_wp2_with fail;refine d.o.mono ?_;rintro e g ⟨rfl,f⟩;have c:=aa (Yf b.o f);clear f;go_wp2;go_ret2;exact⟨rfl,c.o⟩
theorem Sd(mp md:Int)(w:abP):abR 24 #[.agg #[.int .i64 mp,.int .i64 md]] w (.bool (decide (16<=mp/\mp<=1048576/\0<=md/\md<=32))):=by
 have c:=aa ((aq w.heap.size w).alloc (ac _) (.cells #[.int .i64 mp,.int .i64 md] 23));have f:=aa (Bk.fresh w 23 #[.int .i64 mp,.int .i64 md]);have i:(w.alloc (.cells #[.int .i64 mp,.int .i64 md] 23)).cell? ⟨w.heap.size,0,none⟩=some (.int .i64 mp):=f.o.cell 0;have j:(w.alloc (.cells #[.int .i64 mp,.int .i64 md] 23)).cell? ⟨w.heap.size,1,none⟩=some (.int .i64 md):=f.o.cell 1;have b:mp<16\/(16<=mp/\1048576<mp)\/(16<=mp/\mp<=1048576/\md<0)\/(16<=mp/\mp<=1048576/\0<=md/\32<md)\/(16<=mp/\mp<=1048576/\0<=md/\md<=32):=by omega
 rcases b with b| ⟨b,d⟩ | ⟨b,d,g⟩ | ⟨b,d,g,h⟩ | ⟨b,d,g,h⟩
 ·have a:Hid (decide (16<=mp/\mp<=1048576/\0<=md/\md<=32)=false):=aa (ah (by omega));rw[a.o];go_enter func24,ntmps24;go_wp2;go_ret;exact⟨by first| rfl| (simp;omega),c.o⟩
 ·have a:Hid (decide (16<=mp/\mp<=1048576/\0<=md/\md<=32)=false):=aa (ah (by omega));rw[a.o];go_enter func24,ntmps24;go_wp2;go_ret;exact⟨by first| rfl| (simp;omega),c.o⟩
 ·have a:Hid (decide (16<=mp/\mp<=1048576/\0<=md/\md<=32)=false):=aa (ah (by omega));rw[a.o];go_enter func24,ntmps24;go_wp2;go_ret;exact⟨by first| rfl| (simp;omega),c.o⟩
 ·have a:Hid (decide (16<=mp/\mp<=1048576/\0<=md/\md<=32)=false):=aa (ah (by omega));rw[a.o];go_enter func24,ntmps24;go_wp2;go_ret;exact⟨by first| rfl| (simp;omega),c.o⟩
 ·have a:Hid (decide (16<=mp/\mp<=1048576/\0<=md/\md<=32)=true):=aa (au (by omega));rw[a.o];go_enter func24,ntmps24;go_wp2;go_ret;exact⟨by first| rfl| (simp;omega),c.o⟩
def lmE(mp md:Int):Int:=if decide (16<=mp/\mp<=1048576/\0<=md/\md<=32)=true then 0 else 2
theorem aaI{mp md:Int}(h:decide (16<=mp/\mp<=1048576/\0<=md/\md<=32)=true):lmE mp md=0:=if_pos h
theorem aa0{mp md:Int}(h:decide (16<=mp/\mp<=1048576/\0<=md/\md<=32)=false):lmE mp md=2:=Fl (by rw[h];decide)
theorem ZG(mp md:Int)(w:abP):abR 10 #[.agg #[.int .i64 mp,.int .i64 md]] w (.int .i64 (lmE mp md)):=by
 have f:=aa ((aq w.heap.size w).alloc (ac _) (.cells #[.int .i64 mp,.int .i64 md] 23));have g:=aa (Bk.fresh w 23 #[.int .i64 mp,.int .i64 md]);have k:(w.alloc (.cells #[.int .i64 mp,.int .i64 md] 23)).cell? ⟨w.heap.size,0,none⟩=some (.int .i64 mp):=g.o.cell 0;have l:(w.alloc (.cells #[.int .i64 mp,.int .i64 md] 23)).cell? ⟨w.heap.size,1,none⟩=some (.int .i64 md):=g.o.cell 1;have c:=aa (λW=>Sd mp md W);have i:=aa (@aaI mp md);have h:=aa (@aa0 mp md);obtain⟨b,a⟩:∃b,decide (16<=mp/\mp<=1048576/\0<=md/\md<=32)=b:=⟨_,rfl⟩;rw[a]at c i h;clear a;cases b
 focus
  rw[h.o rfl];go_enter func10,ntmps10;go_wp2_with fail;refine Yg (c.o _) λj a=>?_;have d:=aa (Yf f.o a);clear a c;go_wp2;go_ret;exact⟨rfl,d.o⟩
 focus
  rw[i.o rfl];go_enter func10,ntmps10;go_wp2_with fail;refine Yg (c.o _) λj a=>?_;have d:=aa (Yf f.o a);clear a c;go_wp2;go_ret;exact⟨rfl,d.o⟩
theorem Kp.apart{w0 w y:abP}{K:Option Addr}{n c:Nat}{t:List UInt8}(h:Kp w0 w K n c t){gp:Nat}{ty:TypeId}{cs:Array Value}(hp:Bk w gp ty cs)(hne:ty≠U8)(hm:w.grownBy y (some gp)):Kp w0 y K n c t:=by
 refine⟨h.len,h.cap,?_⟩;rcases h.lies with b| ⟨g,o,M,b,d,a,f⟩
 ·exact .inl b
 ·refine .inr ⟨g,o,M,b,d,(hm.block g a.lt λe=>?_).trans a,f⟩;cases e;unfold Bk at hp a;rw[hp]at a;simp only[aX,fc]at a;exact hne a.2.1
end
end Go.Proofs.YtafoknnjekegkaaGreatDoor
namespace Go.Proofs.YtafoknnjekegkaaGreatDoor
open Go.ChangeShapes Go.WideShapes Go.ChangeAt Go.RowKit Go.Deep
open Go.Proofs.Tryz
set_option maxRecDepth 100000
section
variable {H:Type} {enc:TypeId×Value->H} {P:Program} {w:abP} {base:Nat} {spare:Nat->Bool} {held:Bool}
theorem vz{fs:Array Field}{n:Nat}{cs:List Value}{xs:List (DataW H×List MemPlace)}
  (hf:∀(i:Nat) (f:Field),fs[i]? =some f->DataW.trod enc P w base spare held n f.type ((cs.drop f.offset).take (P.cellsOf f.type))=xs[i]?)
  (i:Nat){t:TypeId}{o k:Nat}(hi:(fs[i]?.map λf=>(f.type,f.offset,P.cellsOf f.type))=some (t,o,k)):DataW.trod enc P w base spare held n t ((cs.drop o).take k)=xs[i]? :=by
 obtain⟨f,b,a⟩:=Option.map_eq_some_iff.1 hi;simp only[bG]at a;obtain⟨rfl,rfl,rfl⟩:=a;exact hf i f b
theorem fu.field{t:TypeId}{fs:Array Field}{ds:List (DataW H)}(ht:P.underlying t=some (.struct fs))(h:fu P t (.agg ds)){i:Nat}{u:TypeId}{d:DataW H}(hu:(fs.toList.map (·.type))[i]? =some u)(hd:ds[i]? =some d):fu P u d:=λz a=>h z (by
 simp only[DataW.weights,ht];exact DataW.weights_mem_each hu hd z a)
theorem fu.text{t:TypeId}{s:abO}(h:fu P t (.lit (.string s.data.toList):DataW H)):s.size<=140737488351232:=by
 have:=h.str
 simpa [reachBytes]using this
end
section
variable {H:Type} {enc:TypeId×Value->H} {w:abP} {base:Nat} {spare:Nat->Bool} {held:Bool}
theorem Pc{n:Nat}{cs:List Value}{D:DataW H}{Pl:List MemPlace}(h:DataW.trod enc prog w base spare held n 49 cs=some (D,Pl))(hs:fu prog 49 D):∃f,cs=fiC f/\f.topic.size<=140737488351232:=by
 obtain⟨x,E,rfl,m,b,p,a⟩:=Iy underlying49 h;simp only[bG]at m;obtain⟨rfl,rfl⟩:=m;have l:prog.cellsOf 49=5:=by kernel_rfl
 rw[l]at b
 match cs,b with
 | [c0,c1,c2,c3,c4],_=>
   match x,p with
   | [y0,y1,y2,y3,y4],_=>
     have q:=vz a 0 (t:=9) (o:=0) (k:=1) (by kernel_rfl);have r:=vz a 1 (t:=3) (o:=1) (k:=1) (by kernel_rfl);have s:=vz a 2 (t:=4) (o:=2) (k:=1) (by kernel_rfl);have u:=vz a 3 (t:=4) (o:=3) (k:=1) (by kernel_rfl);have v:=vz a 4 (t:=3) (o:=4) (k:=1) (by kernel_rfl);obtain⟨y,c,rfl,_⟩:=GH underlying9 q;obtain⟨z,d,rfl,_⟩:=GB underlying3 r;obtain⟨A,e,rfl⟩:=GN underlying4 s;obtain⟨B,g,rfl⟩:=GN underlying4 u;obtain⟨C,j,rfl,_⟩:=GB underlying3 v;simp only[Yl,ji,GG,GZ,gY,Hj]at c d e g j;subst c d e g j;exact⟨⟨y,z,A,B,C⟩,rfl,(hs.field underlying49 (i:=0) rfl rfl).text⟩
theorem PH(l:List Int):l.flatMap (λz=>[Value.int .i64 z])=iv l:=by
 induction l with
 | nil=>rfl
 | cons z l ih=>simp only[YS,ih];rfl
theorem Mr{fuel:Nat}{cs:List Value}{d:DataW H}{ps:List MemPlace}(h:DataW.trod enc prog w base spare held fuel 27 cs=some (d,ps))(hs:fu prog 27 d)(hlt:∀x∈ps,x.block<w.heap.size):
  ∃(A:Option Addr) (l:List Int) (c:Nat),cs=[.slice A l.length c]/\Rd w w.heap.size 1 A l.length (iv l)/\l.length<=140737488351232/\l.length<=c:=by
 obtain⟨A,l,c,b,a,j,e,f,m⟩:=rX (X:=Int) (k:=1) (λz=>[Value.int .i64 z]) (λ_=>rfl) (by omega) underlying27 (by kernel_rfl) (λ_=>True)
  (λn cs D i h hs _=>by obtain⟨z,rfl,_⟩:=GB underlying3 h;exact⟨z,rfl,trivial⟩) h hs hlt
 rw[PH]at a;refine⟨A,l,c,b,a,?_,f⟩;have g:prog.bytesOf 3=8:=by kernel_rfl
 rw[g,reachBytes]at e;omega
theorem LB{fuel:Nat}{cs:List Value}{d:DataW H}{ps:List MemPlace}(h:DataW.trod enc prog w base spare held fuel 28 cs=some (d,ps))(hs:fu prog 28 d)(hlt:∀x∈ps,x.block<w.heap.size):
  ∃(A:Option Addr) (l:List Fi) (c:Nat),cs=[.slice A l.length c]/\Rd w w.heap.size 5 A l.length (fis l)/\(∀f∈l,f.topic.size<=140737488351232)/\l.length<=140737488351232/\l.length<=c:=by
 obtain⟨A,l,c,a,b,e,g,i,m⟩:=rX fiC yH (by omega) underlying28 (by kernel_rfl) (λf=>f.topic.size<=140737488351232) (λn cs D k h hs _=>Pc h hs) h hs hlt;refine⟨A,l,c,a,b,e,?_,i⟩;have j:prog.bytesOf 49=40:=by kernel_rfl
 rw[j,reachBytes]at g;omega
theorem Nr{n:Nat}{cs:List Value}{D:DataW H}{Pl:List MemPlace}(h:DataW.trod enc prog w base spare held n 26 cs=some (D,Pl))(hs:fu prog 26 D)(hlt:∀x∈Pl,x.block<w.heap.size):
  ∃(x:Wl) (k:Hd),cs=[.string x.topic,.string x.payload,.int .i64 x.qos,.bool x.retain,.slice k.a x.props.length k.c]/\Rd w w.heap.size 4 k.a x.props.length (prs x.props)/\(∀p∈x.props,qc p)/\x.props.length<=2932031007317/\x.props.length<=k.c/\x.topic.size<=140737488351232/\x.payload.size<=140737488351232:=by
 obtain⟨I,P,rfl,e,d,s,b⟩:=Iy underlying26 h;simp only[bG]at e;obtain⟨rfl,rfl⟩:=e;have r:prog.cellsOf 26=5:=by kernel_rfl
 rw[r]at d
 match cs,d with
 | [c0,c1,c2,c3,c4],_=>
   match I,s with
   | [y0,y1,y2,y3,y4],_=>
     have B:=vz b 0 (t:=9) (o:=0) (k:=1) (by kernel_rfl);have C:=vz b 1 (t:=9) (o:=1) (k:=1) (by kernel_rfl);have E:=vz b 2 (t:=3) (o:=2) (k:=1) (by kernel_rfl);have F:=vz b 3 (t:=4) (o:=3) (k:=1) (by kernel_rfl);have G:=vz b 4 (t:=24) (o:=4) (k:=1) (by kernel_rfl);obtain⟨J,f,rfl,_⟩:=GH underlying9 B;obtain⟨K,g,rfl,_⟩:=GH underlying9 C;obtain⟨L,j,rfl,_⟩:=GB underlying3 E;obtain⟨M,m,rfl⟩:=GN underlying4 F;obtain⟨N,O⟩:=y4;obtain⟨A,l,c,q,u,v,y,z,_⟩:=Ki G (hs.field underlying26 (i:=4) rfl rfl) (λx e=>hlt x (by simp[e]));simp only[Yl,ji,GG,GZ,gY,Hj]at f g j m q;subst f g j m q;exact⟨⟨J,K,L,M,l⟩,⟨A,c⟩,rfl,u,v,y,z,(hs.field underlying26 (i:=0) rfl rfl).text,(hs.field underlying26 (i:=1) rfl rfl).text⟩
theorem Oj{n:Nat}{cs:List Value}{D:DataW H}{Pl:List MemPlace}(h:DataW.trod enc prog w base spare held n PkT cs=some (D,Pl))(hs:fu prog PkT D)(hlt:∀x∈Pl,x.block<w.heap.size):
  ∃(p:Pk) (k:Hs),cs=(pkC p k).toList/\PkIn w w.heap.size p k/\PkOk p:=by
 obtain⟨xs,n',rfl,b,c,Y,a⟩:=Iy underlying30 h;simp only[bG]at b;obtain⟨rfl,rfl⟩:=b;have X:prog.cellsOf PkT=25:=by kernel_rfl
 rw[X]at c
 match cs,c with
 | [c0,c1,c2,c3,c4,c5,c6,c7,c8,c9,c10,c11,c12,c13,c14,c15,c16,c17,c18,c19,c20,c21,c22,c23,c24],_=>
   match xs,Y with
   | [y0,y1,y2,y3,y4,y5,y6,y7,y8,y9,y10,y11,y12,y13,y14,y15,y16,y17,y18,y19,y20],_=>
     have h0:=vz a 0 (t:=3) (o:=0) (k:=1) (by kernel_rfl);have h1:=vz a 1 (t:=4) (o:=1) (k:=1) (by kernel_rfl);have h2:=vz a 2 (t:=4) (o:=2) (k:=1) (by kernel_rfl);have h3:=vz a 3 (t:=3) (o:=3) (k:=1) (by kernel_rfl);have h4:=vz a 4 (t:=3) (o:=4) (k:=1) (by kernel_rfl);have h5:=vz a 5 (t:=9) (o:=5) (k:=1) (by kernel_rfl);have h6:=vz a 6 (t:=9) (o:=6) (k:=1) (by kernel_rfl);have h7:=vz a 7 (t:=4) (o:=7) (k:=1) (by kernel_rfl);have h8:=vz a 8 (t:=3) (o:=8) (k:=1) (by kernel_rfl);have h9:=vz a 9 (t:=9) (o:=9) (k:=1) (by kernel_rfl);have M:=vz a 10 (t:=4) (o:=10) (k:=1) (by kernel_rfl);have N:=vz a 11 (t:=9) (o:=11) (k:=1) (by kernel_rfl);have O:=vz a 12 (t:=4) (o:=12) (k:=1) (by kernel_rfl);have P:=vz a 13 (t:=9) (o:=13) (k:=1) (by kernel_rfl);have Q:=vz a 14 (t:=4) (o:=14) (k:=1) (by kernel_rfl);have R:=vz a 15 (t:=26) (o:=15) (k:=5) (by kernel_rfl);have S:=vz a 16 (t:=4) (o:=20) (k:=1) (by kernel_rfl);have T:=vz a 17 (t:=3) (o:=21) (k:=1) (by kernel_rfl);have U:=vz a 18 (t:=27) (o:=22) (k:=1) (by kernel_rfl);have V:=vz a 19 (t:=28) (o:=23) (k:=1) (by kernel_rfl);have W:=vz a 20 (t:=24) (o:=24) (k:=1) (by kernel_rfl);obtain⟨z0,A,rfl,_⟩:=GB underlying3 h0;obtain⟨z1,B,rfl⟩:=GN underlying4 h1;obtain⟨z2,C,rfl⟩:=GN underlying4 h2;obtain⟨z3,E,rfl,_⟩:=GB underlying3 h3;obtain⟨z4,F,rfl,_⟩:=GB underlying3 h4;obtain⟨z5,G,rfl,_⟩:=GH underlying9 h5;obtain⟨z6,I,rfl,_⟩:=GH underlying9 h6;obtain⟨z7,J,rfl⟩:=GN underlying4 h7;obtain⟨z8,K,rfl,_⟩:=GB underlying3 h8;obtain⟨z9,L,rfl,_⟩:=GH underlying9 h9;obtain⟨ah,d,rfl⟩:=GN underlying4 M;obtain⟨ai,e,rfl,_⟩:=GH underlying9 N;obtain⟨aj,f,rfl⟩:=GN underlying4 O;obtain⟨ak,g,rfl,_⟩:=GH underlying9 P;obtain⟨am,j,rfl⟩:=GN underlying4 Q;obtain⟨bc,bg⟩:=y15;obtain⟨ag,Z,l,a1,a2,a3,a4,a5,a6⟩:=Nr R (hs.field underlying30 (i:=15) rfl rfl) (λx b=>hlt x (by simp[b]));obtain⟨an,m,rfl⟩:=GN underlying4 S;obtain⟨ao,q,rfl,_⟩:=GB underlying3 T;obtain⟨bd,bh⟩:=y18;obtain⟨v,ad,aa,r,b1,b2,b3⟩:=Mr U (hs.field underlying30 (i:=18) rfl rfl) (λx b=>hlt x (by simp[b]));obtain⟨be,bi⟩:=y19;obtain⟨y,ae,ab,s,f1,f2,f3,f4⟩:=LB V (hs.field underlying30 (i:=19) rfl rfl) (λx b=>hlt x (by simp[b]));obtain⟨bf,bj⟩:=y20;obtain⟨z,af,ac,u,r1,r2,r3,r4,_⟩:=Ki W (hs.field underlying30 (i:=20) rfl rfl) (λx b=>hlt x (by simp[b]));simp only[Yl,ji,GG,GZ,gY,Hj]at A B C E F G I J K L d e f g j l m q r s u;obtain⟨q0,q1,q2,q3,q4⟩:=l;subst A B C E F G I J K L d e f g j m q r s u q0 q1 q2 q3 q4;refine⟨⟨z0,z1,z2,z3,z4,z5,z6,z7,z8,z9,ah,ai,aj,ak,am,ag,an,ao,ad,ae,af⟩,⟨Z,⟨v,aa⟩,⟨y,ab⟩,⟨z,ac⟩⟩,rfl,⟨a1,b1,f1,r1,a4,b3,f4,r4⟩,⟨a2,r2,f2,⟨(hs.field underlying30 (i:=5) rfl rfl).text,(hs.field underlying30 (i:=6) rfl rfl).text,(hs.field underlying30 (i:=9) rfl rfl).text,(hs.field underlying30 (i:=11) rfl rfl).text,(hs.field underlying30 (i:=13) rfl rfl).text,a5,a6⟩,⟨aC a3 (by decide),b2,f3,aC r3 (by decide)⟩⟩⟩
theorem Vc{r:Reach}{b0:Nat}{v:Value}{d:DataW H}{ps:List MemPlace}(hval:Value.okWide prog w r b0 PkT v)(hd:DataW.Trod enc prog w base spare held PkT v d ps)(hs:fu prog PkT d)(hlt:∀x∈ps,x.block<w.heap.size):
  ∃(p:Pk) (k:Hs),v=pkV p k/\PkIn w w.heap.size p k/\PkOk p:=by
 have g:∃a,v= .agg a:=by
  simp only[Value.okWide,show prog.underlying PkT=_ from underlying30]at hval;obtain⟨a,h,_⟩:=hval;exact⟨a,h⟩
 obtain⟨a,rfl⟩:=g;obtain⟨c,f⟩:=hd;obtain⟨p,k,b,e⟩:=Oj f hs hlt;refine⟨p,k,?_,e⟩;have b:a.toList=(pkC p k).toList:=b;rw[pkV,oz.1 b]
end
end Go.Proofs.YtafoknnjekegkaaGreatDoor
namespace Go.Proofs.YtafoknnjekegkaaGreatDoor
open Go.RowKit Go.Proofs.Tryz
section
attribute [local go_sem ↓] xS
attribute [local go_sem] um
def Vs(r:List Pk×Nat×Int)(w:abP)(e:Ending)(w':abP):Prop:=∃A n c L,e= .returned (.tuple #[.slice A n c,.int .i64 (r.2.1:Nat),.int .i64 r.2.2])/\RdK w' A n L/\L.map Prod.fst=r.1/\abQ w w'/\n<=c/\n<=10000000000
theorem UE{w0 w:abP}{A:Option Addr}{n c a:Nat}{x:Int}{L:List (Pk×Hs)}{r:List Pk×Nat×Int}(hI:RowI w0 w A n c L)(hB:abQ w0 w)(hr:(L.map Prod.fst,a,x)=r)(hn:n<=10000000000):Vs r w0 (.returned (.tuple #[.slice A n c,.int .i64 a,.int .i64 x])) w:=by
 subst hr;exact⟨A,n,c,L,rfl,hI.read,rfl,hB,hI.row.cap,hn⟩
end
section
theorem uh(A A':Option Addr)(n m c c':Nat)(L M:List (Pk×Hs))(w:abP)(hl:RdK w A n L)(hm:RdK w A' m M)(ol:∀x∈L,gz x.1)(om:∀x∈M,gz x.1)(hn:n<=4611686018427387904)(hn':m<=4611686018427387904):
  abR 8 #[.slice A n c,.slice A' m c'] w (.bool (decide (L.map Prod.fst=M.map Prod.fst))):=by
 have E:=aa hl.len;have F:=aa hm.len
 by_cases b:n=m
 ·subst b;have Z:=aa hl;have HM:=aa hm;have OL:=aa ol;have OM:=aa om
  clear hl hm ol om;go_enter func8,ntmps8;go_wp2
  go_loopw [5] (λi wr=>∃k:Nat,k<=n/\i= .int .i64 k/\(∀j,j<k->(L.map Prod.fst)[j]? =(M.map Prod.fst)[j]?)/\abQ w wr) (λi _=>n- (intOf i).toNat)
  case atStart=>exact⟨0,by omega,rfl,λj s=>by omega,aq _ _⟩
  case round=>
   obtain⟨k,hk,rfl,g,o⟩:=hrel;have G:=aa g;have a:=aa o
   clear g o;by_cases v:k<n
   ·obtain⟨bA,oA,p,h,rfl,y,Q,X,U⟩:=(Z.o.below a.o).at v;obtain⟨bB,oB,q,O,rfl,z,R,Y,V⟩:=(HM.o.below a.o).at v;have LP:Hid (gz p):=aa (OL.o (p,h) (iL y));have LQ:Hid (gz q):=aa (OM.o (q,O) (iL z));have J:Hid ((L.map Prod.fst)[k]? =some p):=aa (by rw[Zr,y];rfl);have u:Hid ((M.map Prod.fst)[k]? =some q):=aa (by rw[Zr,z];rfl);clear y z Q R;have b1:(0:Int)<=(k:Int):=by omega
    have b2:(k:Int)<(n:Int):=by omega
    have D:=jw (W:=wr) (λx T=>ws p q h O x (U.next T) (V.next T) LP.o LQ.o);have g1:=λd r=>X _ (below_regrown wr d r);have g2:=λd r=>Y _ (below_regrown wr d r);have t:=aa (λd r=>a.o.trans ((below_regrown wr d r).mono a.o.size));have f:=aa (show decide (p=q)=true↔p=q from cH);clear U V X Y;obtain⟨B,P⟩:∃B,decide (p=q)=B:=⟨_,rfl⟩;rw[P]at D f;clear P;go_wp2_with fail;refine wp_region_quiet_below (by as_aux_lemma=>kernel_rfl) (by as_aux_lemma=>kernel_rfl) ?_
    repeat (go_big_quiet_step (first| with_reducible exact D _ _))
    refine kE ?_;intro _ S;obtain⟨⟨N,osq⟩,C⟩:=S;subst C;have K:=aa (t.o N osq);clear D g1 g2 t;generalize Sort.grow (redrawn _ N) osq=wq at*;cases B
    ·have I:Hid (p≠q):=aa (λe=>by have:=f.o.2 e;cases this);go_wp2;go_ret;refine⟨?_,K.o⟩;have:L.map Prod.fst≠M.map Prod.fst:=by
      intro e;have:=J.o.symm.trans ((congrArg (λl:List Pk=>l[k]?) e).trans u.o);exact I.o (by simpa using this)
     simp[this]
    ·have H:Hid (p=q):=aa (f.o.1 rfl);go_wp2;go_roundw
     case rel=>
      refine⟨k+1,by omega,by go_num,λj s=>?_,K.o⟩;rcases dx.1 s with h| rfl
      ·exact G.o j h
      ·rw[J.o,u.o,H.o]
     case measure=>simp[intOf];omega
   ·go_wp2;go_ret;refine⟨?_,a.o⟩;have:L.map Prod.fst=M.map Prod.fst:=by
     apply dM;intro j;by_cases s:j<k
     ·exact G.o j s
     ·rw[aG (by rw[eD];have:=E.o;omega),aG (by rw[eD];have:=F.o;omega)]
    simp[this]
 ·have h1:((n:Int) != (m:Int))=true:=by simpa using (by omega:¬(n:Int)=(m:Int))
  have HN:=aa b;clear b hl hm ol om;go_enter func8,ntmps8;go_wp2;go_ret;refine⟨?_,aq _ _⟩;have:L.map Prod.fst≠M.map Prod.fst:=by
   intro e;have:=congrArg List.length e;rw[eD,eD]at this;exact HN.o (by rw[<-E.o,<-F.o];exact this)
  simp[this]
attribute [local go_sem ↓] xS
attribute [local go_sem] um
section
variable {v:Int} {w x y:abP} {L G:List (Pk×Hs)} {i:Nat} {AG:Option Addr} {cG:Nat} {ve:Value} {p:Pk} {h:Hs}
end
theorem RowK.other{w0 w y:abP}{A:Option Addr}{n c:Nat}{L:List (Pk×Hs)}(h:RowK w0 w A n c L){row:Option Nat}(hm:w.grownBy y row)(hne:∀g,A=some ⟨g,0,none⟩->row≠some g):RowK w0 y A n c L:=by
 refine⟨h.len,?_⟩;rcases h.lies with a| ⟨g,M,a,d,b,f⟩
 ·exact .inl a
 ·exact .inr ⟨g,M,a,d,(hm.block g b.lt (λe=>hne g a e.symm)).trans b,f⟩
end
section
attribute [local go_sem ↓] xS
attribute [local go_sem] um
def FS(g:Nat)(o:Option Nat)(i:Nat):Prop:=i=g\/o=some i
theorem Mods.app{S:Nat->Prop}{w0 w w':abP}{o:Option Nat}(h:Mods S w0 w)(hg:w.grownBy w' o)(ho:∀i,o=some i->S i\/w0.heap.size<=i):Mods S w0 w':=
 ⟨hg.os.trans h.os,hg.tape.trans h.tape,hg.output.trans h.output,aC h.size hg.size,λi b c=>(hg.block i (YU b h.size) (λe=>by
  rcases ho i e.symm with a| a
  ·exact c a
  ·omega)).trans (h.block i b c)⟩
theorem RowK.bk{w0 w y:abP}{A:Option Addr}{n c:Nat}{L:List (Pk×Hs)}(h:RowK w0 w A n c L)(hm:w.grownBy y (Value.slice A n c).ownBlock){g:Nat}{ty:TypeId}{cs:Array Value}(hb:Bk w g ty cs)(hne:ty≠PkT):Bk y g ty cs:=by
 refine(hm.block g hb.lt λe=>?_).trans hb;rcases h.lies with ⟨rfl,-⟩ | ⟨b,M,rfl,-,a,-⟩
 ·cases e
 ·simp only[Value.ownBlock,aX]at e;subst e;unfold Bk at hb a;rw[hb]at a;simp only[aX,fc]at a;exact hne a.2.1
theorem Kp.row{w0 wf w y:abP}{K:Option Addr}{m d:Nat}{t:List UInt8}(h:Kp w0 w K m d t){A:Option Addr}{n c:Nat}{L:List (Pk×Hs)}(hr:RowK wf w A n c L)(hm:w.grownBy y (Value.slice A n c).ownBlock):Kp w0 y K m d t:=by
 refine⟨h.len,h.cap,?_⟩;rcases h.lies with a| ⟨g,o,M,a,b,e,f⟩
 ·exact .inl a
 ·exact .inr ⟨g,o,M,a,b,hr.bk hm e (by decide),f⟩
end
section
theorem acB{g:Nat}{o:Option Nat}{w w':abP}(h:Mods (FS g o) w w')(hg:g<w.heap.size):∃z,w.grownBy z (some g)/\z.grownBy w' o:=by
 have c:g<w'.heap.size:=YU hg h.size;refine⟨{w with heap:=w.heap.set g (w'.heap[g]) hg},⟨rfl,rfl,rfl,?_,λi d e=>?_⟩,⟨h.os,h.tape,h.output,?_,λi d e=>?_⟩⟩
 ·show w.heap.size<=(w.heap.set g (w'.heap[g]) hg).size;rw[Array.size_set];exact ac _
 ·show(w.heap.set g (w'.heap[g]) hg)[i]? =w.heap[i]?;rw[Array.getElem?_set_ne hg (λx=>e (by rw[x]))]
 ·show(w.heap.set g (w'.heap[g]) hg).size<=w'.heap.size;rw[Array.size_set];exact h.size
 ·show w'.heap[i]? =(w.heap.set g (w'.heap[g]) hg)[i]?;have f:i<w.heap.size:=by
   have:i<(w.heap.set g (w'.heap[g]) hg).size:=d;rwa[Array.size_set]at this
  by_cases x:g=i
  ·subst x;rw[Array.getElem?_set_self hg,eL c]
  ·rw[Array.getElem?_set_ne hg x];exact h.block i f (λy=>y.elim (λa=>x a.symm) (λb=>e b.symm))
theorem Kp.not{w0 w:abP}{K:Option Addr}{n c:Nat}{t:List UInt8}(h:Kp w0 w K n c t){g:Nat}{ty:TypeId}{cs:Array Value}(hb:Bk w g ty cs)(hne:ty≠U8):(Value.slice K n c).ownBlock≠some g:=by
 intro e;rcases h.lies with ⟨rfl,-⟩ | ⟨b,o,M,rfl,-,a,-⟩
 ·cases e
 ·simp only[Value.ownBlock,aX]at e;subst e;unfold Bk at hb a;rw[hb]at a;simp only[aX,fc]at a;exact hne a.2.1
theorem RowI.kept{wf w0 w y:abP}{A:Option Addr}{n c:Nat}{L:List (Pk×Hs)}(h:RowI wf w A n c L){K:Option Addr}{m d:Nat}{t:List UInt8}(hk:Kp w0 w K m d t)(hm:w.grownBy y (Value.slice K m d).ownBlock):RowI wf y A n c L:=by
 refine⟨h.row.other hm λq a e=>?_,λx g=>hk.keep hm (h.ins x g),h.apart⟩;rcases h.row.lies with ⟨b,-⟩ | ⟨j,i,b,-,f,-⟩
 ·rw[b]at a;cases a
 ·rw[b]at a;cases a
  exact hk.not f (by decide) e
theorem Bk.ne{w:abP}{q g:Nat}{ty tz:TypeId}{cs ds:Array Value}(h:Bk w q ty cs)(h':Bk w g tz ds)(hne:ty≠tz):q≠g:=by
 rintro rfl;unfold Bk at h h';rw[h]at h';simp only[aX,fc]at h';exact hne h'.2.1
theorem uo{fn:Func}{p:Tmp}(hr:fn.results= #[.cell p 23])(tmps:Array Value){w:abP}{g:Nat}{a b:Value}(hp:tmps.getD p undef= .pointer (some ⟨g,0,none⟩))(hb:Bk w g 23 #[a,b]):(results fn tmps).run prog w= .ok (.agg #[a,b]) w:=by
 obtain⟨⟨c,d⟩,-⟩:=hb.two;rw[Jf]at hp;simp only[results,hr];simp[hp,go_sem,c,d]
attribute [local go_sem ↓] xS
attribute [local go_sem] um
theorem acg(v mp md:Int)(p:Pk)(h:Hs)(w:abP)(ip:PkIn w w.heap.size p h)(ok:PkOk p)(hz:MV v p):
  abR 14 #[.int .i64 v,zW mp md,pkV p h] w (.bool (WL v mp md p)):=by
 have j:Hid (WL v mp md p=(WZ mp md&&(decide ((mqB v p).2=0)&&decide (((mqB v p).1.size:Int)<=mp)))):=aa rfl;have b0:=(aq w.heap.size w).alloc (ac _) (.cells #[.int .i64 mp,.int .i64 md] 23);have t:=Bk.fresh w 23 #[.int .i64 mp,.int .i64 md];have g:=aa (((St.start w).below b0).push (ip.next b0));have m:=aa (t.alloc (.cells (pkC p h) PkT));rw[show(w.alloc (.cells #[.int .i64 mp,.int .i64 md] 23)).heap.size=w.heap.size+1 by simp]at g;have l:=aa (λW=>ZG mp md W);have x:=aa ok;have u:=aa hz
 unfold zW at*;clear b0 t ip ok hz;have s:=g.o.ld 0 rfl;go_enter func14,ntmps14;go_wp2_with fail;refine Yg (UQ v p h _ (g.o.into 0 rfl) x.o u.o) λA b=>?_;have q:=aa (g.o.below b);have a:=aa (Yh m.o b)
 clear b s g m;generalize (mqB v p).2=E at*;generalize (mqB v p).1.size=z at*;have k:=a.o.cell 0;have r:=a.o.cell 1;simp only[ay,aE,aB]at k r;go_wp2_with fail;refine Yg (l.o _) λB b=>?_;have n:=aa (q.o.below b);have o:=aa (Yh a.o b)
 clear b k r l q a;by_cases d:WZ mp md=true;rotate_left
 ·have f:Hid (WL v mp md p=false):=aa (by rw[j.o,Bool.eq_false_iff.2 d,YH]);rw[aa0 (Bool.eq_false_iff.2 d)];clear d j;go_wp2;go_ret;exact⟨by rw[f.o];rfl,n.o.kept⟩
 have c:Hid (WL v mp md p=(decide (E=0)&&decide ((z:Int)<=mp))):=aa (by rw[j.o,d,aL]);rw[aaI d];clear d j;have k:=o.o.cell 0;simp only[ay,aB]at k;by_cases i:E=0
 ·have f:Hid (WL v mp md p=decide ((z:Int)<=mp)):=aa (by rw[c.o,au i,aL]);subst i;clear c;go_wp2;go_ret;exact⟨by rw[f.o];rfl,n.o.kept⟩
 ·have f:Hid (WL v mp md p=false):=aa (by rw[c.o,ah i,YH]);have y:(E==0)=false:=ar.2 i;clear c i;go_wp2;go_ret;exact⟨by rw[f.o];rfl,n.o.kept⟩
theorem ab7(w:abP):abR 12 #[] w (zW 1048576 32):=by
 have a:=aa ((aq w.heap.size w).alloc (ac _) (.cells #[.int .i64 1048576,.int .i64 32] 23));have b:=aa (Bk.fresh w 23 #[.int .i64 1048576,.int .i64 32]);go_enter func12,ntmps12;go_wp2;refine abZ (uo rfl _ rfl b.o) rfl ?_;exact⟨rfl,a.o⟩
end
end Go.Proofs.YtafoknnjekegkaaGreatDoor
namespace Go.Proofs.YtafoknnjekegkaaGreatDoor
open Go.RowKit Go.Shelf
open Go.Sort hiding Below
open Go.Proofs.Tryz
def Xk:Ren:=⟨fun| 125=>58| 128=>97| 129=>98| 189=>42| 215=>140| 216=>94| 257=>57| 294=>88| 295=>89| 296=>90| 297=>91| 298=>92| 299=>93| 300=>95| 301=>96| 328=>135| 329=>136| 330=>137| 331=>138| 332=>139| 343=>205| n=>n,fun| 0=>0| 3=>3| 4=>4| 5=>5| 9=>9| 28=>27| 46=>76| 51=>69| 53=>110| 131=>119| 182=>114| 183=>115| 218=>140| 222=>144| 228=>183| 229=>184| n=>n,λn=>n⟩
theorem Xv:Lays.n189 prog Xk where
 mixed:=by kernel_rfl
 f125:=func58.trans (congrArg some (by kernel_rfl))
 f128:=func97.trans (congrArg some (by kernel_rfl))
 f129:=func98.trans (congrArg some (by kernel_rfl))
 f189:=func42.trans (congrArg some (by kernel_rfl))
 f215:=func140.trans (congrArg some (by kernel_rfl))
 f216:=func94.trans (congrArg some (by kernel_rfl))
 f257:=func57.trans (congrArg some (by kernel_rfl))
 f294:=func88.trans (congrArg some (by kernel_rfl))
 f295:=func89.trans (congrArg some (by kernel_rfl))
 f296:=func90.trans (congrArg some (by kernel_rfl))
 f297:=func91.trans (congrArg some (by kernel_rfl))
 f298:=func92.trans (congrArg some (by kernel_rfl))
 f299:=func93.trans (congrArg some (by kernel_rfl))
 f300:=func95.trans (congrArg some (by kernel_rfl))
 f301:=func96.trans (congrArg some (by kernel_rfl))
 f328:=func135.trans (congrArg some (by kernel_rfl))
 f329:=func136.trans (congrArg some (by kernel_rfl))
 f330:=func137.trans (congrArg some (by kernel_rfl))
 f331:=func138.trans (congrArg some (by kernel_rfl))
 f332:=func139.trans (congrArg some (by kernel_rfl))
 f343:=func205.trans (congrArg some (by kernel_rfl))
 t0:=underlying0
 a0:=Tryz.isAgg0
 z0:=Tryz.sizeOf0
 v0:=Tryz.zeroValue0
 t3:=underlying3
 a3:=Tryz.isAgg3
 z3:=Tryz.sizeOf3
 v3:=Tryz.zeroValue3
 t4:=underlying4
 a4:=Tryz.isAgg4
 z4:=Tryz.sizeOf4
 v4:=Tryz.zeroValue4
 t5:=underlying5
 a5:=Tryz.isAgg5
 z5:=Tryz.sizeOf5
 v5:=Tryz.zeroValue5
 t9:=underlying9
 a9:=Tryz.isAgg9
 z9:=Tryz.sizeOf9
 v9:=Tryz.zeroValue9
 t28:=underlying27
 a28:=Tryz.isAgg27
 z28:=Tryz.sizeOf27
 v28:=Tryz.zeroValue27
 t46:=underlying76
 a46:=Tryz.isAgg76
 z46:=Tryz.sizeOf76
 v46:=Tryz.zeroValue76
 t51:=underlying69
 a51:=Tryz.isAgg69
 z51:=Tryz.sizeOf69
 v51:=Tryz.zeroValue69
 t53:=underlying110
 a53:=Tryz.isAgg110
 z53:=Tryz.sizeOf110
 v53:=Tryz.zeroValue110
 t131:=underlying119
 a131:=Tryz.isAgg119
 z131:=Tryz.sizeOf119
 v131:=Tryz.zeroValue119
 t182:=underlying114
 a182:=Tryz.isAgg114
 z182:=Tryz.sizeOf114
 v182:=Tryz.zeroValue114
 t183:=underlying115
 a183:=Tryz.isAgg115
 z183:=Tryz.sizeOf115
 v183:=Tryz.zeroValue115
 t218:=underlying140
 a218:=Tryz.isAgg140
 z218:=Tryz.sizeOf140
 v218:=Tryz.zeroValue140
 t222:=underlying144
 a222:=Tryz.isAgg144
 z222:=Tryz.sizeOf144
 v222:=Tryz.zeroValue144
 t228:=underlying183
 a228:=Tryz.isAgg183
 z228:=Tryz.sizeOf183
 v228:=Tryz.zeroValue183
 t229:=underlying184
 a229:=Tryz.isAgg184
 z229:=Tryz.sizeOf184
 v229:=Tryz.zeroValue184
def Xj:Ren:=⟨fun| 6=>56| 10=>39| n=>n,fun| 0=>0| 3=>3| 4=>4| 22=>27| 23=>3| 25=>52| n=>n,λn=>n⟩
theorem XT:SlLaysH.n10 prog Xj where
 mixed:=by kernel_rfl
 f6:=⟨Tryz.f56.name,by kernel_rfl,func56.trans (congrArg some (by kernel_rfl))⟩
 f10:=⟨Tryz.f39.name,by kernel_rfl,func39.trans (congrArg some (by kernel_rfl))⟩
 t0:=underlying0
 a0:=Tryz.isAgg0
 z0:=Tryz.sizeOf0
 v0:=Tryz.zeroValue0
 t3:=underlying3
 a3:=Tryz.isAgg3
 z3:=Tryz.sizeOf3
 v3:=Tryz.zeroValue3
 t4:=underlying4
 a4:=Tryz.isAgg4
 z4:=Tryz.sizeOf4
 v4:=Tryz.zeroValue4
 t22:=underlying27
 a22:=Tryz.isAgg27
 z22:=Tryz.sizeOf27
 v22:=Tryz.zeroValue27
 a23:=Tryz.isAgg3
 z23:=Tryz.sizeOf3
 t25:=underlying52
 a25:=Tryz.isAgg52
 z25:=Tryz.sizeOf52
 v25:=Tryz.zeroValue52
theorem Xe:(prog.info? 3).map (λi=>(i.zero,i.size,i.bytes))=some (some (.int .i64 0),1,8):=by kernel_rfl
theorem WP:(prog.info? 9).map (λi=>(i.zero,i.size,i.bytes))=some (some (.string ⟨#[]⟩),1,16):=by kernel_rfl
theorem XS(l:List Int):∀u∈iv l,u.oneCell'=true:=by
 intro u a;obtain⟨z,-,rfl⟩:=jX.1 a;rfl
theorem Xr(n c:Nat)(w:abP):abT 40 #[.slice none n c] w (.slice none 0 0):=by
 have f:∀(w:abP) (a:Option Addr) (n c d b:Nat),(binOp .eql 27 (.slice a n c) (.slice none d b)).run prog w= .ok (.bool a.isNone) w:=λw a n c d b=>Lib.run_eql_slice_nil w _ _ a n c d b underlying27;go_enter func40,ntmps40;go_wp2;go_ret;exact⟨rfl,rfl⟩
theorem Xq(ad:Addr)(l:List Int)(c:Nat)(w:abP)(h:Rd w w.heap.size 1 (some ad) l.length (iv l))(hl:l.length<=1000000):
  Calls prog 40 #[.slice (some ad) l.length c] w λe w'=>∃v,e= .returned v/\w'.ownsRow w.heap.size 3 1 v l.length (iv l)/\abQ w w'/\v≠ .slice none 0 0:=by
 have H:=aa h;clear h
 have o:∀(w:abP) (a:Option Addr) (n c i d:Nat),(binOp .eql 27 (.slice a n c) (.slice none i d)).run prog w= .ok (.bool a.isNone) w:=λw a n c i d=>Lib.run_eql_slice_nil w _ _ a n c i d underlying27;go_enter func40,ntmps40;go_wp2_with (at_builtin;refine kF _ rfl (.tmp 5) (.tmp 6) 27 rfl w.heap.size 3 _ 1 8 underlying27 Xe rfl (by decide) (.slice (some ⟨w.heap.size,0,none⟩) 0 0) 0 [] rfl (UH w w.heap.size _ 1 (ac _)) _ _ _ _ (iv l) rfl (H.o.alloc (ac _) _) (XS _) (by unfold maxLen;omega) (by omega) (by simp) ?_;intro m p b j f);go_ret;refine⟨m,rfl,by simpa using b,kz ((aq _ _).alloc (ac _) _) j (by simp) (λg k=>?_),?_⟩
 ·have:w.heap.size=g:=by simpa [Value.ownBlock]using k
  omega
 ·rintro rfl;simp[Value.ownBlock]at f
theorem WW(n:Nat)(z:Int)(B:Nat)(w:abP)(hc:w.cell? ⟨B,0,none⟩=some (.int .i64 n)):
  FnGives prog 41 #[.pointer (some ⟨B,0,none⟩)] #[.int .i64 z] (.bool (!WK n z)) w:=by
 show Calls prog 41 #[.int .i64 z,.pointer (some ⟨B,0,none⟩)] w _;have b:Hid (WK n z=(decide (0<=z)&&decide (z<=(n:Int)))):=aa rfl;by_cases e:z<0
 ·have a:Hid (WK n z=false):=aa (by rw[b.o,ah (by omega)];rfl);go_enter func41,ntmps41;go_wp2;go_ret;exact⟨by rw[a.o];rfl,0,rfl⟩
 ·have c:0<=z:=by omega
  by_cases f:(n:Int)<z
  ·have a:Hid (WK n z=false):=aa (by rw[b.o,ah (show ¬z<=(n:Int) by omega),ru]);go_enter func41,ntmps41;go_wp2;go_ret;exact⟨by rw[a.o];rfl,0,rfl⟩
  ·have d:z<=(n:Int):=by omega
   have a:Hid (WK n z=true):=aa (by rw[b.o,au c,au d];rfl);clear e f;go_enter func41,ntmps41;go_wp2;go_ret;refine⟨?_,0,rfl⟩;rw[a.o];simp;omega
theorem XG(f:Value)(c:Nat)(w:abP):abT 56 #[.slice none 0 c,f] w (.int .i64 (-1)):=by
 go_enter func56,ntmps56;go_wp2
 go_loopw [8] (λi wr=>i= .int .i64 0/\w=wr) (λi _=>0)
 case atStart=>exact⟨rfl,rfl⟩
 case round=>
  obtain⟨rfl,rfl⟩:=hrel;go_wp2;go_ret;exact⟨rfl,rfl⟩
theorem XL(f:Value)(c:Nat)(w:abP):abT 39 #[.slice none 0 c,f] w (.slice none 0 c):=by
 go_enter func39,ntmps39;go_wp2_with fail;refine(XG f c _).mono ?_;rintro e a ⟨rfl,rfl⟩;go_wp2;go_ret;exact⟨rfl,rfl⟩
theorem Xb{B g n:Nat}{a w:abP}{os:Array Obj}(d:Array Int)(h:Below B a w)(hB:B<=w.heap.size)(hg:B<=g):Below B a (grow (putRow (Value.int .i64) (Sort.ahead w n) g 0 d) os):=
 h.grown (grownBy_sortedI d) hB (λk b=>by cases b;exact hg)
theorem Xz{w:abP}{g n:Nat}(d:Array Int):putRow (Value.int .i64) (Sort.ahead w n) g 0 d=grow (putRow (Value.int .i64) (Sort.ahead w n) g 0 d) #[]:=(grow_empty _).symm
theorem Xl{w:abP}{g:Nat}{l m:List Int}(h:Holds (Value.int .i64) w g 0 (l++m).toArray):Holds (Value.int .i64) w g 0 l.toArray:=λj a=>by
 have b:j<l.length:=by simpa using a
 have:=h j (by simp;omega);have e:(l++m).toArray[j]! =l.toArray[j]! :=by
  rw[getElem!_pos (l++m).toArray j (by simp;omega),getElem!_pos l.toArray j a];simp[List.getElem_append_left b]
 rwa[e]at this
theorem Xw(blk cap:Nat)(zs:List Int)(w:abP)(hH:Holds (Value.int .i64) w blk 0 zs.toArray)(hblk:blk<w.heap.size)(hsz:zs.length<4611686018427387904):
  Calls prog 42 #[.slice (some ⟨blk,0,none⟩) zs.length cap] w λe w'=>
   e= .returned (.tuple #[])/\∃n os,w'=grow (putRow (Value.int .i64) (Sort.ahead w n) blk 0 (zs.mergeSort λx y=>decide (x<=y)).toArray) os:=Any.slices_Sort_int Xv blk 0 cap zs w hH hblk hsz
theorem XK(n blk cap B:Nat)(l:List Int)(w:abP)(hB:w.cell? ⟨B,0,none⟩=some (.int .i64 n))(hBlt:B<w.heap.size)(hne:B≠blk)(hH:Holds (Value.int .i64) w blk 0 l.toArray)(hl:l.length<=1000000)(hc:l.length<=cap):
  Calls prog 39 #[.slice (some ⟨blk,0,none⟩) l.length cap,.func (.func 41) #[] #[.pointer (some ⟨B,0,none⟩)]] w λe w'=>
   e= .returned (.slice (some ⟨blk,0,none⟩) (l.filter (WK n)).length cap)/\∃q,w'=putRow (Value.int .i64) (Sort.ahead w q) blk 0 (l.filter (WK n)++List.replicate (l.length- (l.filter (WK n)).length) 0).toArray:=by
 have b:∀args w,(callFunc 41 args).run prog w= .ok (.enter 41 args) w:=enters_of func41 (by kernel_rfl) rfl;have h:=AnyE.slices_DeleteFunc XT (Value.int .i64) (λ_=>rfl) (λz=>!WK n z) 41 #[.pointer (some ⟨B,0,none⟩)] b 0 Tryz.zeroValue3 blk 0 cap l.toArray w
  (λW x c=>WW n x B W ((c.cell (p:=⟨B,0,none⟩) hBlt).trans hB))
  (fun m f d x _=>WW n x B _ (by
    unfold sortWorld;rw[cell?_grow _ _ _ (by show B<(putRow _ _ _ _ _).heap.size;rw[size_putRow];exact hBlt),cell?_putRow_other _ _ blk 0 _ _ (Or.inl hne)];exact hB)) hH (by simp;omega) (by simpa using hc)
 have a:(l.toArray.toList.filter λx=>!(λz=>!WK n z) x)=l.filter (WK n):=by simp
 rw[a]at h;simp only[WO]at h;exact h
theorem Xo(n:Nat)(A:Option Addr)(l:List Int)(c:Nat)(w:abP)(hr:Rd w w.heap.size 1 A l.length (iv l))(hl:l.length<=1000000):
  Calls prog 27 #[.int .i64 n,.slice A l.length c] w λe w'=>∃A' c',e= .returned (.slice A' (plL n l).length c')/\Rd w' w'.heap.size 1 A' (plL n l).length (iv (plL n l))/\abQ w w':=by
 have R:=aa hr;have F:=aa ((aq w.heap.size w).alloc (ac _) (.cells #[.int .i64 n] 3));have L:=aa (Bk.fresh w 3 #[.int .i64 n]);clear hr;have Y:Hid (plL n l=((l.filter (WK n)).mergeSort λx y=>decide (x<=y))):=aa rfl;have X:Hid (plL n []=[]):=aa (XF (List.Perm.refl _) List.Pairwise.nil);rcases A with _| Z
 ·have hn:l=[]:=by
   rcases R.o.2 with H| ⟨b,o,h,_⟩
   ·simpa [iv]using H
   ·cases h
  subst hn;go_enter func27,ntmps27;go_wp2_with fail;refine(Xr _ _ _).mono ?_;rintro e i ⟨rfl,rfl⟩;go_wp2_with fail;refine(XL _ _ _).mono ?_;rintro e i ⟨rfl,rfl⟩;go_wp2_with fail;refine(Any.slices_Sort_int_none Xv none 0 _).mono ?_;rintro e i ⟨rfl,rfl⟩;go_wp2;go_ret;rw[X.o];exact⟨none,0,rfl,Rd.nil _ _ _ _,F.o⟩
 ·go_enter func27,ntmps27;go_wp2_with fail;refine(Xq Z l c _ (R.o.alloc (ac _) _ |>.wider (by simp)) hl).mono ?_;rintro e i ⟨v,rfl,m,I,D⟩;rcases m.2 with ⟨H,_⟩ | ⟨g,cap,cur,rfl,S,a,k,z,B,C⟩
  ·exact absurd H D
  have r:=aa (Yf F.o I);have j:=Yh L.o I;have N:Hid (Holds (Value.int .i64) i g 0 l.toArray):=aa (holds_of_blockI a (by simpa [iv]using C));have V:=aa a;have ag:g<i.heap.size:=(cZ.1 a).1;have J:w.heap.size+1<=g:=by simpa using S
  have ah:w.heap.size<g:=J;have U:=aa (XK n g cap w.heap.size l i (j.cell 0) j.lt (by omega) N.o hl k);have G:=aa (And.intro k (And.intro z B));clear m I D a C j k z B;go_wp2_with fail;refine U.o.mono ?_;rintro e p ⟨rfl,q,d⟩;have u:(l.filter (WK n)).length<=l.length:=WJ _ _;have E:p.heap[g]? =some (.cells (putCells (Value.int .i64) 0 (l.filter (WK n)++List.replicate (l.length- (l.filter (WK n)).length) 0).toArray cur) 3 (0,0)):=by
   have:=heap_sortedI (n:=q) (os:=#[]) (l.filter (WK n)++List.replicate (l.length- (l.filter (WK n)).length) 0).toArray V.o;rw[grow_empty]at this;rw[d];exact this
  have O:Hid (Holds (Value.int .i64) p g 0 (l.filter (WK n)).toArray):=aa (by
   rw[d];exact Xl (holds_putRow _ _ g 0 l.toArray _ (holds_ahead _ _ q g 0 _ N.o) (by simp;omega)))
  have s:Hid (abQ w p):=aa (by
   rw[d,Xz];exact Xb _ r.o r.o.size (by omega))
  have a:g<p.heap.size:=(cZ.1 E).1;have M:=aa E;have t:=aa u;clear E d u;go_wp2_with fail;refine(Xw g cap (l.filter (WK n)) p O.o a (by have:=t.o;omega)).mono ?_;rintro e T ⟨rfl,n3,os,f⟩;have W:=aa (ownsRow_sortedI (n:=n3) (os:=os) (base:=w.heap.size) (ss:=l.filter (WK n)) (ts:=plL n l) (Xc n l) (by omega) M.o (by have:=t.o;have:=G.o.1;omega) G.o.2.1 (by simpa [putCells]using G.o.2.2));rw[<-Y.o]at f;have P:Hid (T.ownsRow w.heap.size 3 1 (.slice (some ⟨g,0,none⟩) (l.filter (WK n)).length cap) (l.filter (WK n)).length (iv (plL n l))):=aa (by rw[f];exact W.o);have K:Hid (abQ w T):=aa (by
   rw[f];exact Xb _ s.o s.o.size (by omega))
  have Q:=aa (Xc n l);clear f;go_wp2;go_ret;obtain⟨A',c',he,hc,hr⟩:=jK P.o;cases he;rw[<-Q.o]at hr⊢;exact⟨_,_,rfl,hr,K.o⟩
theorem Xs(s:abO)(A:Option Addr)(l:List Int)(c:Nat)(w:abP)(hr:Rd w w.heap.size 1 A l.length (iv l))(hl:l.length<=1000000)(hs:s.size<=140737488351232):
  Calls prog 16 #[.string s,.slice A l.length c] w λe w'=>∃v,e= .returned v/\w'.ownsRow w.heap.size 9 1 v (lkL s (plL s.size l)).length (txv (lkL s (plL s.size l)))/\abQ w w':=by
 have HR:=aa hr;have HS:=aa hs
 have G:=aa (Xo s.size A l c w hr hl);have u:=aa (Ya s.size l);have P:Hid ((plL s.size l).length<=1000000):=aa (aC (XA s.size l) hl);clear hr hs hl;generalize plL s.size l=L at*;go_enter func16,ntmps16;go_wp2_with fail;refine G.o.mono ?_;rintro e m ⟨Y,c',rfl,I,H⟩;have Q:=aa I;have t:=aa H
 clear I H G;go_wp2
 go_loopw [5,6,14] (λo f i wr=>∃k:Nat,k<=L.length/\i= .int .i64 k/\f= .int .i64 (lkA L k)/\wr.ownsRow m.heap.size 9 1 o k (txv ((List.range k).map (lkS s L)))/\abQ m wr) (λ_ _ i _=>L.length- (intOf i).toNat)
 case atStart=>exact⟨0,by omega,rfl,by rw[vc];rfl,dD _ _ _ _,aq _ _⟩
 case round=>
  obtain⟨k,W,rfl,rfl,B,p⟩:=hrel;have D:=aa B;have O:=aa p
  have X:=p.size;have Z:=P.o;clear B;by_cases j:k<L.length
  ·obtain⟨bA,oA,z,rfl,hb,E,hc⟩:=(Q.o.below p).atI j;have J:L[k]=z:=by rw[List.getElem?_eq_getElem j]at E;exact Option.some.inj E
   have x:=u.o.at j;rw[J]at x;have d:=u.o.le W;rw[FH j]at d;have r:Hid (lkS s L k=s.extract (lkA L k) (lkA L (k+1))):=aa (by unfold lkS;rw[FH j]);have HZ:=aa E;obtain⟨a,y⟩:∃a,lkA L k=a:=⟨_,rfl⟩;obtain⟨q,N⟩:∃q,lkA L (k+1)=q:=⟨_,rfl⟩;have S:=aa N;rw[N]at x d r;rw[y]at d r⊢;obtain⟨x,V⟩:=x;subst x;have T:(0:Int)<=(a:Int):=by omega
   have U:(a:Int)<=(q:Int):=by omega
   have c3:(q:Int)<=(s.size:Int):=by omega
   have b1:(0:Int)<=(k:Int):=by omega
   have b2:(k:Int)<(L.length:Int):=by omega
   have K:Hid (txv ((List.range (k+1)).map (lkS s L))=txv ((List.range k).map (lkS s L))++[.string (s.extract a q)]):=aa (by rw[Xh,Xf,r.o]);clear E J d V N y;go_wp2_with (at_builtin;refine kF _ rfl (.tmp 18) (.tmp 23) 42 rfl m.heap.size 9 (.string ⟨#[]⟩) 1 16 underlying42 WP rfl (by decide) u5 _ _ rfl (D.o.alloc _) _ _ 1 1 [.string (s.extract a q)] rfl (Rd.lit _ _ _ rfl (ed _) rfl) (Xt [s.extract a q]) (by unfold maxLen;omega) (by omega) (by simp;omega) ?_;intro F C b h n);have R:C.ownsRow m.heap.size 9 1 F (k+1) (txv ((List.range (k+1)).map (lkS s L)))/\abQ m C:=by
    refine⟨by rw[K.o];exact b,?_⟩;exact kz (O.o.alloc (by omega) _) h (by simp;omega) (λg M=>(cX D.o g M).1)
   clear b h n;go_wp2;go_roundw
   case rel=>exact⟨k+1,by omega,by go_num,by rw[S.o],R.1,R.2⟩
   case measure=>simp[intOf];omega
  ·obtain rfl:k=L.length:=by omega
   have d:=u.o.le (ac _);rw[Eu (WQ _)]at d;have r:Hid (lkS s L L.length=s.extract (lkA L L.length) s.size):=aa (by unfold lkS;rw[Eu (WQ _)]);obtain⟨a,y⟩:∃a,lkA L L.length=a:=⟨_,rfl⟩;rw[y]at d r⊢;have T:(0:Int)<=(a:Int):=by omega
   have U:(a:Int)<=(s.size:Int):=by omega
   have K:Hid (txv (lkL s L)=txv ((List.range L.length).map (lkS s L))++[.string (s.extract a s.size)]):=aa (by unfold lkL;rw[Xh,Xf,r.o]);clear d y;go_wp2_with (at_builtin;refine kF _ rfl (.tmp 27) (.tmp 31) 42 rfl m.heap.size 9 (.string ⟨#[]⟩) 1 16 underlying42 WP rfl (by decide) u5 _ _ rfl (D.o.alloc _) _ _ 1 1 [.string (s.extract a s.size)] rfl (Rd.lit _ _ _ rfl (ed _) rfl) (Xt [s.extract a s.size]) (by unfold maxLen;omega) (by omega) (by simp;omega) ?_;intro F C b h n);have R:C.ownsRow w.heap.size 9 1 F (lkL s L).length (txv (lkL s L))/\abQ w C:=by
    rw[K.o,XR];refine⟨zH b t.o.size,t.o.trans ((kz (O.o.alloc (by omega) _) h (by simp;omega) (λg M=>(cX D.o g M).1)).mono t.o.size)⟩
   clear b h n;go_wp2;go_ret;exact⟨F,rfl,R.1,R.2⟩
end Go.Proofs.YtafoknnjekegkaaGreatDoor
namespace Go.Proofs.YtafoknnjekegkaaGreatDoor
open Go.RowKit Go.Proofs.Tryz
def ab9(L:List Int)(k:Nat)(z:Int):List Int:=L.take k++z :: L.drop k
theorem acp(L:List Int)(k:Nat)(z:Int):(ab9 L k z).Perm (z :: L):=by
 unfold ab9;refine List.perm_middle.trans ?_;rw[cg]
theorem acv{L:List Int}{k:Nat}{z:Int}(h:L.Pairwise λa b=>decide (a<=b)=true)(h1:∀x∈L.take k,x<=z)(h2:∀x∈L.drop k,z<=x):(ab9 L k z).Pairwise λa b=>decide (a<=b)=true:=by
 unfold ab9;have c:(L.take k++L.drop k).Pairwise λa b=>decide (a<=b)=true:=by rw[cg];exact h
 rw[List.pairwise_append]at c⊢;refine⟨c.1,List.pairwise_cons.2 ⟨λx f=>by simpa using h2 x f,c.2.1⟩,λa e b d=>?_⟩;rcases ie.1 d with rfl| d
 ·simpa using h1 a e
 ·exact c.2.2 a e b d
theorem acu(L:List Int){k:Nat}(hk:k<=L.length)(z:Int):(ab9 L k z).length=L.length+1:=by
 unfold ab9;rw[List.length_append,bM,cY,bU];omega
theorem acq{L:List Int}(h:L.Pairwise λa b=>decide (a<=b)=true){k:Nat}{z:Int}(h1:∀(hk:k- 1<L.length),0<k->L[k- 1]<=z)(hk:k<=L.length):∀x∈L.take k,x<=z:=by
 intro x g;obtain⟨i,f,rfl⟩:=List.mem_iff_getElem.1 g;rw[cY]at f;rw[List.getElem_take];have d:=h1 (by omega) (by omega);rcases fj i (k- 1)with c| j
 ·have:=List.pairwise_iff_getElem.1 h i (k- 1) (by omega) (by omega) c;simp only[Fx]at this;omega
 ·have e:i=k- 1:=by omega
  subst e;exact d
structure InsOk (n:Nat) (l:List Int) (i:Nat) (L:List Int):Prop where
 asc:L.Pairwise λa b=>decide (a<=b)=true
 perm:((l.take i).filter (WK n)).Perm L
theorem aci(n:Nat)(l:List Int):InsOk n l 0 []:=⟨List.Pairwise.nil,by simp⟩
theorem InsOk.len{n:Nat}{l:List Int}{i:Nat}{L:List Int}(h:InsOk n l i L):L.length<=i:=by
 have b:=h.perm.length_eq;have a:=WJ (WK n) (l.take i);rw[cY]at a;omega
theorem InsOk.done{n:Nat}{l:List Int}{L:List Int}(h:InsOk n l l.length L):plL n l=L:=by
 refine XF ?_ h.asc;have:=h.perm;rwa[bt (ac _)]at this
theorem InsOk.skip{n:Nat}{l:List Int}{i:Nat}{L:List Int}{z:Int}(h:InsOk n l i L)(hi:l[i]? =some z)(hz:WK n z=false):InsOk n l (i+1) L:=by
 obtain⟨a,rfl⟩:=YI.1 hi;refine⟨h.asc,?_⟩;rw[fE a,List.filter_append];simp only[List.filter,hz,YO];exact h.perm
theorem InsOk.put{n:Nat}{l:List Int}{i:Nat}{L:List Int}{z:Int}(h:InsOk n l i L)(hi:l[i]? =some z)(hz:WK n z=true){k:Nat}(h1:∀x∈L.take k,x<=z)(h2:∀x∈L.drop k,z<=x):InsOk n l (i+1) (ab9 L k z):=by
 obtain⟨a,rfl⟩:=YI.1 hi;refine⟨acv h.asc h1 h2,?_⟩;rw[fE a,List.filter_append];simp only[List.filter,hz];refine List.perm_append_comm.trans ?_;exact(List.Perm.cons _ h.perm).trans (acp L k _).symm
theorem aco{w:abP}{base:Nat}{e:TypeId}{s:Nat}{A:Option Addr}{n c:Nat}{xs:List Value}(h:w.ownsRow base e s (.slice A n c) n xs){k:Nat}(hk:k<=n):w.ownsRow base e s (.slice A k c) k (xs.take (k*s)):=by
 have l:k*s<=n*s:=iH _ hk;refine⟨by rw[cY,h.1];omega,?_⟩;rcases h.2 with ⟨a,rfl⟩ | ⟨g,cap,cur,a,b,d,m,f,i,j⟩
 ·cases a;obtain rfl:k=0:=by omega
  exact .inl ⟨rfl,rfl⟩
 ·cases a;refine .inr ⟨g,_,cur,rfl,b,d,by omega,f,i,?_⟩;rw[<-j,List.take_take]
  congr 1
  omega
theorem acy(l:List Int)(k:Nat):(iv l).take (k*1)=iv (l.take k):=by simp[iv]
theorem acz(l:List Int)(k:Nat):(iv l).drop (k*1)=iv (l.drop k):=by simp[iv]
theorem acA(L:List Int)(k:Nat)(z:Int):iv (ab9 L k z)=(iv (L.take k)++[.int .i64 z])++iv (L.drop k):=by simp[iv,ab9]
