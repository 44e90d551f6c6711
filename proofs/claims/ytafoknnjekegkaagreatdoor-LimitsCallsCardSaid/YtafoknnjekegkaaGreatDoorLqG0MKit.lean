/- Parts: MKit, MOct. -/
import Derived.Test.YtafoknnjekegkaaGreatDoorLqAl
import Derived.WalkKit
import Derived.WalkSpells
import Derived.WalkLawsBesides
import Derived.Lib.Hide
import Derived.Deep.Draws
import Derived.Deep.QuietTactic
import Derived.BigQuiet
import Derived.Maps.AppendAt
import Derived.Deep.AppendLies
import Derived.Lib.AppendStr
import Derived.Maps.Own
import Derived.MapKept
import Derived.Test.YtafoknnjekegkaaGreatDoorProg
import Derived.Deep.OwnRows
import Derived.Lib.Strings
set_option maxRecDepth 10000
set_option maxHeartbeats 8000000
namespace Go.Proofs.YtafoknnjekegkaaGreatDoor
open Go.RowKit Go.Proofs.Tryz
variable {w w':abP}{g B n k base a:Nat}{v b c:Value}{e t:TypeId}{xs:List Value}{P:Program}{cs:Array Value}
section
def Rd(w:abP)(B k:Nat)(A:Option Addr)(n:Nat)(xs:List Value):Prop:=
 xs.length=n*k/\(xs=[]\/∃b o:Nat,A=some ⟨b,o,none⟩/\b<B/\∀j u,xs[j]? =some u->w.cell? ⟨b,o+j,none⟩=some u)
section
variable {w w':abP} {B B' k n:Nat} {A:Option Addr} {xs:List Value}
theorem Rd.len(h:Rd w B k A n xs):xs.length=n*k:=h.1
theorem Rd.nil(w:abP)(B k:Nat)(A:Option Addr):Rd w B k A 0 []:=⟨by simp,.inl rfl⟩
theorem qX{ad:Addr}(hl:xs.length=n*k)(hb:ad.block<B)(hc:∀j u,xs[j]? =some u->w.cell? (ad.add j)=some u):Rd w B k (some ad) n xs:=by
 refine⟨hl,?_⟩;cases xs with
 | nil=>exact .inl rfl
 | cons x xs=>
   obtain⟨b,o,e⟩:=ad;have a:=hc 0 x rfl;have c:e=none:=by simpa [Addr.add]using World.cell?_spot a
   subst c;exact .inr ⟨b,o,rfl,hb,λj u d=>by rw[<-Addr.add_lit];exact hc j u d⟩
theorem Rd.addr(h:Rd w B k A n xs)(hx:xs≠[]):∃ad:Addr,A=some ad/\ad.block<B/\∀j u,xs[j]? =some u->w.cell? (ad.add j)=some u:=by
 rcases h.2 with a| ⟨b,o,rfl,c,d⟩
 ·exact absurd a hx
 ·exact⟨_,rfl,c,λj u e=>by rw[Addr.add_lit];exact d j u e⟩
theorem Rd.by_cells(h:Rd w B k A n xs)(hk:∀p:Addr,p.block<B->w'.cell? p=w.cell? p):Rd w' B k A n xs:=by
 refine⟨h.1,?_⟩;rcases h.2 with c| ⟨b,o,rfl,a,d⟩
 ·exact .inl c
 ·exact .inr ⟨b,o,rfl,a,λj u e=>(hk _ a).trans (d j u e)⟩
theorem Rd.wider(h:Rd w B k A n xs)(hB:B<=B'):Rd w B' k A n xs:=by
 refine⟨h.1,?_⟩;rcases h.2 with a| ⟨b,o,rfl,d,c⟩
 ·exact .inl a
 ·exact .inr ⟨b,o,rfl,by omega,c⟩
theorem Rd.below(h:Rd w B k A n xs)(hb:Below B w w'):Rd w' B k A n xs:=h.by_cells λ_ a=>hb.cell a
theorem Rd.drewN(h:Rd w B k A n xs)(m:Nat):Rd (w.drewN m) B k A n xs:=h
theorem Rd.alloc(h:Rd w B k A n xs)(hB:B<=w.heap.size)(o:Obj):Rd (w.alloc o) B k A n xs:=h.by_cells λp a=>fD w o p (by omega)
theorem Rd.at1(h:Rd w B 1 A n xs){i:Nat}(hi:i<n):∃b o u,A=some ⟨b,o,none⟩/\b<B/\xs[i]? =some u/\w.cell? ⟨b,o+i,none⟩=some u:=by
 have a:i<xs.length:=by have:=h.1;omega
 rcases h.2 with c| ⟨b,o,rfl,d,e⟩
 ·subst c;simp at a
 ·exact⟨b,o,xs[i],rfl,d,List.getElem?_eq_getElem a,e i _ (List.getElem?_eq_getElem a)⟩
end
theorem Rd.fresh(w:abP)(cs:Array Value)(t:TypeId):Rd (w.alloc (.cells cs t)) (w.heap.size+1) 1 (some ⟨w.heap.size,0,none⟩) cs.size cs.toList:=by
 refine⟨by simp,.inr ⟨_,0,rfl,by simp,λj v a=>?_⟩⟩;rw[bV,cell_of_row _ w.heap.size j cs t (0,0) (me w _)]
 simpa using a
theorem Rd.lit(w:abP)(cs:Array Value)(t:TypeId)(hg:w.heap.size=g)(hB:g<B)(hx:cs.toList=xs):
  Rd (w.alloc (.cells cs t)) B 1 (some ⟨g,0,none⟩) xs.length xs:=by
 subst hg hx;exact(Rd.fresh w cs t).wider hB
def Bk(w:abP)(g:Nat)(t:TypeId)(cs:Array Value):Prop:=w.heap[g]? =some (.cells cs t (0,0))
section
variable {w w':abP} {g:Nat} {t:TypeId} {cs:Array Value}
theorem Bk.lt(h:Bk w g t cs):g<w.heap.size:=by
 unfold Bk at h;exact(cZ.1 h).1
theorem Bk.cell(h:Bk w g t cs)(i:Nat):w.cell? ⟨g,i,none⟩=cs[i]? :=cell_of_row w g i cs t (0,0) h
theorem Bk.free(h:Bk w g t cs)(i:Nat):w.frozen? ⟨g,i,none⟩=false:=by
 unfold Bk at h;simp[World.frozen?,h]
theorem Bk.fresh(w:abP)(t:TypeId)(cs:Array Value):Bk (w.alloc (.cells cs t)) w.heap.size t cs:=me w _
theorem Bk.drewN(h:Bk w g t cs)(n:Nat):Bk (w.drewN n) g t cs:=h
theorem Bk.alloc(h:Bk w g t cs)(o:Obj):Bk (w.alloc o) g t cs:=(UC w o g h.lt).trans h
theorem Bk.put(h:Bk w g t cs)(i:Nat)(u:Value):Bk (w.setCell ⟨g,i,none⟩ u) g t (cs.setIfInBounds i u):=by
 unfold Bk at h⊢;simp[World.setCell,Array.getElem?_modify,h]
theorem Bk.other(h:Bk w g t cs){p:Addr}(hp:g≠p.block)(u:Value):Bk (w.setCell p u) g t cs:=(jz w p u g hp).trans h
theorem Bk.below(h:Bk w g t cs)(hb:Below B w w')(hg:g<B):Bk w' g t cs:=(hb.block g hg).trans h
theorem Yf{x y:abP}(h:abQ w x)(k:abQ x y):abQ w y:=Below.trans h (Below.mono k h.size)
theorem Yg{f:FuncId}{args:Array Value}{B:abP->Prop}{R:Ending->abP->Prop}(h:Calls P f args w λe y=>e= .returned v/\B y)(k:∀y,B y->R (.returned v) y):Calls P f args w R:=h.mono λ_ _ b=>by obtain⟨rfl,a⟩:=b;exact k _ a
theorem Yh{w2:abP}(h:Bk w g t cs)(hb:abQ w w2):Bk w2 g t cs:=Bk.below h hb h.lt
theorem Bk.two{a:Value}(h:Bk w g t #[a,b]):(w.cell? ⟨g,0,none⟩=some a/\w.cell? ⟨g,1,none⟩=some b)/\w.frozen? ⟨g,0,none⟩=false/\w.frozen? ⟨g,1,none⟩=false:=
 ⟨⟨h.cell 0,h.cell 1⟩,h.free 0,h.free 1⟩
theorem Bk.three{a:Value}(h:Bk w g t #[a,b,c]):(w.cell? ⟨g,0,none⟩=some a/\w.cell? ⟨g,1,none⟩=some b/\w.cell? ⟨g,2,none⟩=some c)/\w.frozen? ⟨g,0,none⟩=false/\w.frozen? ⟨g,1,none⟩=false/\w.frozen? ⟨g,2,none⟩=false:=
 ⟨⟨h.cell 0,h.cell 1,h.cell 2⟩,h.free 0,h.free 1,h.free 2⟩
theorem Bk.four{a d:Value}(h:Bk w g t #[a,b,c,d]):(w.cell? ⟨g,0,none⟩=some a/\w.cell? ⟨g,1,none⟩=some b/\w.cell? ⟨g,2,none⟩=some c/\w.cell? ⟨g,3,none⟩=some d)/\
  w.frozen? ⟨g,0,none⟩=false/\w.frozen? ⟨g,1,none⟩=false/\w.frozen? ⟨g,2,none⟩=false/\w.frozen? ⟨g,3,none⟩=false:=
 ⟨⟨h.cell 0,h.cell 1,h.cell 2,h.cell 3⟩,h.free 0,h.free 1,h.free 2,h.free 3⟩
theorem Bk.put_four{a d a' b' c' d':Value}(h:Bk w g t #[a,b,c,d]):Bk ((((w.setCell ⟨g,0,none⟩ a').setCell ⟨g,1,none⟩ b').setCell ⟨g,2,none⟩ c').setCell ⟨g,3,none⟩ d') g t #[a',b',c',d']:=by
 have:=(((h.put 0 a').put 1 b').put 2 c').put 3 d'
 simpa using this
theorem cD{a:abP}(h:Below B a w)(hg:B<=g)(a' b' c' d':Value):Below B a ((((w.setCell ⟨g,0,none⟩ a').setCell ⟨g,1,none⟩ b').setCell ⟨g,2,none⟩ c').setCell ⟨g,3,none⟩ d'):=
 (((h.setCell hg _).setCell hg _).setCell hg _).setCell hg _
theorem Bk.put_other{g':Nat}{a' b' c' d':Value}(h:Bk w g t cs)(hn:g≠g'):Bk ((((w.setCell ⟨g',0,none⟩ a').setCell ⟨g',1,none⟩ b').setCell ⟨g',2,none⟩ c').setCell ⟨g',3,none⟩ d') g t cs:=
 (((h.other hn _).other hn _).other hn _).other hn _
theorem vM{W w1:abP}(hb:abQ W w1):(∀b o,b<W.heap.size->w1.cell? ⟨b,o,none⟩=W.cell? ⟨b,o,none⟩)/\(∀b o,b<W.heap.size->w1.frozen? ⟨b,o,none⟩=W.frozen? ⟨b,o,none⟩):=
 ⟨λb o h=>hb.cell (p:=⟨b,o,none⟩) h,λb o h=>hb.frozen (p:=⟨b,o,none⟩) h⟩
end
theorem aV{a:abP}(h:Below B a w)(n:Nat):Below B a (w.drewN n):=⟨h.os,h.tape,h.output,h.size,h.block⟩
theorem sy(a:Nat)(ha:a<9223372036854775808):(BitVec.ofInt 64 (a:Int)).toNat=a:=by
 rw[BitVec.ofInt_natCast,BitVec.toNat_ofNat];omega
theorem abg(a b:Nat)(ha:a<9223372036854775808)(hb:b<9223372036854775808):bits BinOp.and IntKind.i64 (a:Int) (b:Int)=((a&&& b:Nat):Int):=by
 have h:a&&& b<=a:=Nat.and_le_left;show IntKind.i64.wrap ((BitVec.ofInt 64 (a:Int)&&& BitVec.ofInt 64 (b:Int)).toNat:Int)=_;rw[BitVec.toNat_and,sy a ha,sy b hb,aQ];omega
theorem Wd(a b:Nat)(ha:a<9223372036854775808)(hb:b<9223372036854775808):bits BinOp.or IntKind.i64 (a:Int) (b:Int)=((a ||| b:Nat):Int):=by
 have h:a ||| b<2^ 63:=Nat.or_lt_two_pow (by omega) (by omega)
 show IntKind.i64.wrap ((BitVec.ofInt 64 (a:Int) ||| BitVec.ofInt 64 (b:Int)).toNat:Int)=_;rw[BitVec.toNat_or,sy a ha,sy b hb,aQ];omega
theorem Ew(a k:Nat)(ha:a<9223372036854775808)(hk:k<=62):bits BinOp.and IntKind.i64 (a:Int) ((2^ k- 1:Nat):Int)=((a% 2^ k:Nat):Int):=by
 have b:(2:Nat) ^ k<=2^ 62:=df (by omega) hk;rw[abg _ _ ha (by omega),kC]
def bys(l:List UInt8):List Value:=l.map λb=>Value.int .u8 (b.toNat:Int)
theorem ni{w:abP}{B n:Nat}{A:Option Addr}{l:List UInt8}(src dst e:TypeId)(hs:P.underlying src=some (.slice e))(he:P.underlying e=some (.int .u8))(hd:P.underlying dst=some .string)
  (c:Nat)(h:Rd w B 1 A n (bys l)):(convert src dst (.slice A n c)).run P w= .ok (.string ⟨l.toArray⟩) w:=by
 have p:n=l.length:=by have:=h.len;simp[bys]at this;omega
 rw[run_convert_bytes_string w src dst e _ _ _ hs he hd];rcases A with _| a
 ·have:l=[]:=by
   rcases h.2 with d| ⟨b,o,f,_⟩
   ·simpa [bys]using d
   ·cases f
  subst this;simp[Conv.bytesToString,ByteArray.empty,ByteArray.emptyWithCapacity];rfl
 ·have g:∀j v,(bys l)[j]? =some v->w.cell? (a.add j)=some v:=by
   rcases h.2 with d| ⟨b,o,f,_,g⟩
   ·rw[d];intro j v i;simp at i
   ·cases f;intro j v i;rw[Addr.add_lit];exact g j v i
  have m:(loadCells a n).run P w= .ok ((l.map λb=>(b.toNat:Int)).map (Value.int .u8)).toArray w:=by
   have:=run_loadCells_list (P:=P) w a (bys l) (λj v k=>g j v k)
   simpa [p,bys,Function.comp_def]using this
  rw[run_bytesToString w _ _ _ _ m,foldl_push_bytes];simp[ByteArray.empty,ByteArray.emptyWithCapacity,Function.comp_def];rfl
theorem jK(h:w.ownsRow base e k v n xs):∃A c,v= .slice A n c/\n<=c/\Rd w w.heap.size k A n xs:=by
 have a:=h;rcases h.2 with ⟨rfl,rfl⟩ | ⟨g,cap,cur,rfl,f,d,b,_⟩
 ·exact⟨none,0,rfl,ac _,h.1,.inl (aF (by rw[h.1,jU]))⟩
 ·exact⟨_,cap,rfl,b,qX h.1 (cZ.1 d).1 (a.cells (g:=g) rfl)⟩
theorem dV(h:w.ownsRow base e k v n xs)(hb:abQ w w'):w'.ownsRow base e k v n xs:=by
 refine⟨h.1,?_⟩;rcases h.2 with b| ⟨g,cap,cur,rfl,c,a,d⟩
 ·exact .inl b
 ·exact .inr ⟨g,cap,cur,rfl,c,(hb.block g (cZ.1 a).1).trans a,d⟩
theorem lV(h:w.ownsRow base e k v n xs)(m:Nat):(w.drewN m).ownsRow base e k v n xs:=h
theorem zH{base':Nat}(h:w.ownsRow base e k v n xs)(hb:base'<=base):w.ownsRow base' e k v n xs:=by
 refine⟨h.1,?_⟩;rcases h.2 with a| ⟨g,cap,cur,rfl,b,c⟩
 ·exact .inl a
 ·exact .inr ⟨g,cap,cur,rfl,aC hb b,c⟩
theorem cX(h:w.ownsRow base e k v n xs):∀g,v.ownBlock=some g->base<=g/\g<w.heap.size:=h.lt
section
variable {P:Program} (w:abP)
theorem sM(base:Nat)(t ty e:TypeId)(i:TypeInfo)(size:Nat)(ht:P.underlying t=some (.slice e))(hi:P.info? e=some i)
  (v:Value)(n:Nat)(xs:List Value)(hown:w.ownsRow base e size v n xs)(c:Nat):(Builtin.append_ #[t,t] ty #[v,.slice none 0 c]).run P w= .ok v w:=by
 rcases hown.2 with ⟨rfl,rfl⟩ | ⟨g,cap,cur,rfl,_,_,a,_⟩
 ·simp[Builtin.append_,run_underlying ht,sizeOf,typeInfo,hi,Builtin.lenOf,Builtin.firstCells]
 ·simp[Builtin.append_,run_underlying ht,sizeOf,typeInfo,hi,Builtin.lenOf,Builtin.firstCells,a,storeCells]
theorem DU(base:Nat)(t ty e:TypeId)(z:Value)(size bytes:Nat)(ht:P.underlying t=some (.slice e))(hinfo:(P.info? e).map (λi=>(i.zero,i.size,i.bytes))=some (some z,size,bytes))
  (hzs:z.cells.size=size)(hsz:0<size)(v:Value)(n:Nat)(xs:List Value)(hown:w.ownsRow base e size v n xs)
  (B:Nat)(A:Option Addr)(m c:Nat)(news:List Value)(hr:Rd w B size A m news)(h1:∀u∈news,u.oneCell'=true)
  (h63:n+m<=maxLen)(hbytes:(n+m)*bytes<=140737488355328)(hbase:base<=w.heap.size):
  ∃v' w',(Builtin.append_ #[t,t] ty #[v,.slice A m c]).run P w= .ok v' w'/\w'.ownsRow base e size v' (n+m) (xs++news)/\w.grownBy w' v.ownBlock/\
   (v'.ownBlock=v.ownBlock\/v'.ownBlock=some w.heap.size):=by
 obtain⟨i,q,D,d,p⟩:=o8 hinfo;rcases A with _| l
 ·have C:news=[]:=by
   rcases hr.2 with a| ⟨b,o,h,_⟩
   ·exact a
   ·cases h
  subst C;have y:m=0:=by
   have:=hr.1;rcases dh m with a| a
   ·exact a
   ·have:=Nat.mul_pos a hsz;simp at*;omega
  subst y;exact⟨v,w,sM w base t ty e i size ht q v n xs hown c,by simpa using hown,jy w _,.inl rfl⟩
 ·have f:∀j u,news[j]? =some u->w.cell? (l.add j)=some u:=by
   rcases hr.2 with a| ⟨b,o,h,_,f⟩
   ·subst a;intro j u k;simp at k
   ·cases h;intro j u k;rw[Addr.add_lit];exact f j u k
  obtain⟨v',w',g,r,s,_,x⟩:=run_append_own_at (P:=P) w base t ty e i z size bytes ht q D d p hzs hsz v n xs hown l m c news hr.1 f h1 h63 hbytes hbase;exact⟨v',w',g,r,s,x⟩
theorem vY{o:Oper}{a:Act}{K:Act->abP->Prop}{Q:Exit->Act->abP->Prop}(s x:Operand)(t:TypeId)
  (ho:o.op= .call {callee:=.builtin .append,args:=#[s,x],argTypes:=#[t,t]})
  (base:Nat)(e:TypeId)(z:Value)(size bytes:Nat)(ht:P.underlying t=some (.slice e))(hinfo:(P.info? e).map (λi=>(i.zero,i.size,i.bytes))=some (some z,size,bytes))
  (hzs:z.cells.size=size)(hsz:0<size)(v:Value)(n:Nat)(xs:List Value)(hs:a.eval s=v)(hown:w.ownsRow base e size v n xs)
  (B:Nat)(A:Option Addr)(m c:Nat)(news:List Value)(hx:a.eval x= .slice A m c)(hr:Rd w B size A m news)(h1:∀u∈news,u.oneCell'=true)
  (h63:n+m<=maxLen)(hbytes:(n+m)*bytes<=140737488355328)(hbase:base<=w.heap.size)
  (h:∀v' w',w'.ownsRow base e size v' (n+m) (xs++news)->w.grownBy w' v.ownBlock->(v'.ownBlock=v.ownBlock\/v'.ownBlock=some w.heap.size)->K (a.put o.dst v') w'):o.wp P a w K Q:=by
 obtain⟨v',w',b,d,f,g⟩:=DU (P:=P) w base t o.type e z size bytes ht hinfo hzs hsz v n xs hown B A m c news hr h1 h63 hbytes hbase;unfold Oper.wp execOp;simp only[ho,resolve,invoke,builtin,Sem.run_bind,Sem.run_pure,ik,kD,fI,gC,hs,hx,b];exact h v' w' d f g
theorem kF{ops:Array Oper}{rest:List Oper}{o:Oper}{a:Act}{Q:Exit->Act->abP->Prop}(hgd:o.guard=none)(s x:Operand)(t:TypeId)
  (ho:o.op= .call {callee:=.builtin .append,args:=#[s,x],argTypes:=#[t,t]})
  (base:Nat)(e:TypeId)(z:Value)(size bytes:Nat)(ht:P.underlying t=some (.slice e))(hinfo:(P.info? e).map (λi=>(i.zero,i.size,i.bytes))=some (some z,size,bytes))
  (hzs:z.cells.size=size)(hsz:0<size)(v:Value)(n:Nat)(xs:List Value)(hs:a.eval s=v)(hown:w.ownsRow base e size v n xs)
  (B:Nat)(A:Option Addr)(m c:Nat)(news:List Value)(hx:a.eval x= .slice A m c)(hr:Rd w B size A m news)(h1:∀u∈news,u.oneCell'=true)
  (h63:n+m<=maxLen)(hbytes:(n+m)*bytes<=140737488355328)(hbase:base<=w.heap.size)
  (h:∀v' w',w'.ownsRow base e size v' (n+m) (xs++news)->w.grownBy w' v.ownBlock->(v'.ownBlock=v.ownBlock\/v'.ownBlock=some w.heap.size)->wpList P ops Q rest (a.put o.dst v') w'):wpList P ops Q (o :: rest) a w:=
 Y6 hgd λ_ g=>vY w s x t ho base e z size bytes ht hinfo hzs hsz v n xs hs hown B A m c news hx hr h1 h63 hbytes hbase λv' w' b d f=>g _ _ (h v' w' b d f)
end
theorem kz{a:abP}(h:Below B a w)(hg:w.grownBy w' v.ownBlock)(hB:B<=w.heap.size)(hv:∀g,v.ownBlock=some g->B<=g):Below B a w':=h.grown hg hB hv
theorem Bk.app(h:Bk w g t cs)(hg:w.grownBy w' v.ownBlock)(hv:v.ownBlock≠some g):Bk w' g t cs:=
 (hg.block g h.lt (λe=>hv e.symm)).trans h
theorem nS(h:w.ownsRow base e k v n xs)(hg:Bk w g t cs)(hne:e≠t):v.ownBlock≠some g:=by
 rcases h.2 with ⟨rfl,_⟩ | ⟨a,cap,cur,rfl,_,c,_⟩
 ·simp[Value.ownBlock]
 ·intro b;obtain rfl:a=g:=by simpa [Value.ownBlock]using b
  unfold Bk at hg;rw[c]at hg;simp only[aX,fc]at hg;exact hne hg.2.1
theorem Kr(l:List Nat):∀u∈(l.map λc:Nat=>Value.int .i64 (c:Int)),u.oneCell'=true:=by
 intro u a;obtain⟨c,_,rfl⟩:=jX.1 a;rfl
end
section
def xt(A:Option Addr)(c k s:Nat):Option Addr:=if c=k then A else A.map (·.add (k*s))
section
variable {P:Program} {t e:TypeId} {s:Nat} (ht:P.underlying t=some (.slice e)) (hz:∀w,(sizeOf e).run P w= .ok s w)
include ht hz
theorem NV(A:Option Addr)(n c k:Nat)(hk:k<=n)(W:abP):(Instr.slice t (.slice A n c) (some (.int .i64 (k:Int))) none none).run P W= .ok (.slice (xt A c k s) (n- k) (c- k)) W:=by
 have a:(0:Int)<=(k:Int):=by omega
 have b:(k:Int)<=(n:Int):=by omega
 simp[Instr.slice,run_underlying ht,Instr.sliceBounds,run_sliceBound,hz,xt,hk]
theorem Bi(A:Option Addr)(n c k:Nat)(hk:k<=c)(W:abP):(Instr.slice t (.slice A n c) none (some (.int .i64 (k:Int))) none).run P W= .ok (.slice A k c) W:=by
 have a:(0:Int)<=(k:Int):=by omega
 have b:(k:Int)<=(c:Int):=by omega
 simp[Instr.slice,run_underlying ht,Instr.sliceBounds,run_sliceBound,hz,hk];intro _;cases A<;>simp[Addr.add]
end
section
variable {w:abP} {B s n:Nat} {A:Option Addr} {xs:List Value}
theorem Rd.cut_from(h:Rd w B s A n xs){c:Nat}(hk:k<=n)(hc:n<=c):Rd w B s (xt A c k s) (n- k) (xs.drop (k*s)):=by
 have e:(xs.drop (k*s)).length=(n- k)*s:=by rw[bU,h.1,Nat.sub_mul]
 refine⟨e,?_⟩;rcases h.2 with g| ⟨b,o,rfl,i,a⟩
 ·left;subst g;simp
 ·by_cases d:c=k
  ·left;apply aF;rw[e,show n- k=0 by omega,jU]
  ·right;refine⟨b,o+k*s,?_,i,λj u f=>?_⟩
   ·unfold xt;rw[Fl d];simp[Addr.add_lit]
   ·rw[List.getElem?_drop]at f;rw[Nat.add_assoc];exact a _ u f
theorem Rd.cut_to(h:Rd w B s A n xs)(hk:k<=n):Rd w B s A k (xs.take (k*s)):=by
 have f:k*s<=n*s:=iH _ hk;refine⟨by rw[cY,h.1];omega,?_⟩;rcases h.2 with d| ⟨b,o,rfl,e,a⟩
 ·left;subst d;simp
 ·right;refine⟨b,o,rfl,e,λj u c=>a j u ?_⟩;rw[List.getElem?_take]at c;split at c
  ·exact c
  ·cases c
end
theorem UH(w:abP)(base:Nat)(e:TypeId)(k:Nat)(hb:base<=w.heap.size):(w.alloc (.cells #[] e)).ownsRow base e k (.slice (some ⟨w.heap.size,0,none⟩) 0 0) 0 []:=
 ⟨by simp,.inr ⟨w.heap.size,0,#[],rfl,hb,me w _,ac _,by unfold maxLen;omega,by simp,by simp⟩⟩
end
section
def nZ(kd:IntKind)(i:Nat)(p:Int×Value):MapEntry:={key:=.int kd p.1,val:=p.2,born:=i}
def fB(kd:IntKind):Nat->List (Int×Value)->List MapEntry
 | _,[]=>[]
 | i,p :: l=>nZ kd i p :: fB kd (i+1) l
theorem rc(kd:IntKind)(i:Nat)(l:List (Int×Value))(p:Int×Value):fB kd i (l++[p])=fB kd i l++[nZ kd (i+l.length) p]:=by
 induction l generalizing i with
 | nil=>rfl
 | cons q l ih=>simp[fB,ih,Nat.add_assoc,Nat.add_comm 1]
def fQ(kd:IntKind)(w:abP)(r:Nat)(l:List (Int×Value)):Prop:=w.heap[r]? =some (.map (fB kd 0 l).toArray l.length)
def ia(l:List (Int×Value))(x:Int):Option Value:=(l.find? λp=>p.1==x).map (·.2)
section
variable {kd:IntKind} {w w':abP} {r:Nat} {l:List (Int×Value)}
theorem fQ.lt(h:fQ kd w r l):r<w.heap.size:=(cZ.1 h).1
theorem fQ.below(h:fQ kd w r l)(hb:Below B w w')(hr:r<B):fQ kd w' r l:=(hb.block r hr).trans h
theorem fQ.alloc(h:fQ kd w r l)(o:Obj):fQ kd (w.alloc o) r l:=(UC w o r h.lt).trans h
theorem yq(w:abP)(kd:IntKind):fQ kd (w.alloc (.map #[] 0)) w.heap.size []:=me w _
theorem ql(key:Int):∀(l:List (Int×Value)) (i j:Nat),(∀p∈l,p.1≠key)->Instr.findNow (.int kd) (.int kd key) (fB kd i l) j=some none
 | [],_,_,_=>rfl
 | p :: l,i,j,h=>by
   have h0:=h p (.head _);have:(key==p.1)=false:=by simpa using λe=>h0 e.symm
   simp[fB,nZ,Instr.findNow,Instr.sameNow,this];exact ql key l _ _ (λq a=>h q (.tail _ a))
theorem qj(key:Int):∀(l:List (Int×Value)) (i j:Nat),∃o,Instr.findNow (.int kd) (.int kd key) (fB kd i l) j=some o/\o.map (·.2)=ia l key
 | [],_,_=>⟨none,rfl,rfl⟩
 | p :: l,i,j=>by
   by_cases h:key=p.1
   ·refine⟨some (j,p.2),?_,?_⟩
    ·subst h;simp[fB,nZ,Instr.findNow,Instr.sameNow]
    ·subst h;simp[ia]
   ·have h1:(key==p.1)=false:=by simpa using h
    have a:(p.1==key)=false:=by simpa using λe=>h e.symm
    obtain⟨o,c,b⟩:=qj key l (i+1) (j+1);exact⟨o,by simp[fB,nZ,Instr.findNow,Instr.sameNow,h1];exact c,by simp[ia,List.find?,a];simpa [ia]using b⟩
theorem Cj{k:TypeId}(ht:P.underlying t=some (.map k e))(hk:P.underlying k=some (.int kd))(h:fQ kd w r l)(x:Int)(v:Value)(hu:∀q∈l,q.1≠x):
  ∃w',(Instr.mapUpdate t (.map (some r)) (.int kd x) v).run P w= .ok () w'/\fQ kd w' r (l++[(x,v)])/\w.grownBy w' (some r):=by
 have f:=jW (P:=P) h;have b:=MapKept.run_checkKey (P:=P) (w:=w) (kt:=k) (d:=.int kd) (k:=.int kd x) hk rfl false 9999;have c:=MapKept.run_findKey (P:=P) (w:=w) (kt:=k) (d:=.int kd) (k:=.int kd x) (l:=fB kd 0 l) (a:=none) hk (ql _ _ _ _ hu);have j:=λo=>MapKept.run_setObj_map (P:=P) o h;refine⟨_,by
  unfold Instr.mapUpdate;simp only[Sem.run_bind,run_underlying ht,f,b,c,Result.andThen];exact j _,?_,?_⟩
 ·unfold fQ;rw[rc];simp[h.lt,nZ]
 ·exact⟨rfl,rfl,rfl,by simp,λi _ g=>by
   have:r≠i:=λe=>g (by rw[e]);simp[this]⟩
theorem lc{P:Program}(w:abP){ops:Array Oper}{rest:List Oper}{o:Oper}{a:Act}{Q:Exit->Act->abP->Prop}
  (hg:o.guard=none)(m x v:Operand)(t:TypeId)(hop:o.op=Op.insert t m x v)(k e:TypeId)(ht:P.underlying t=some (.map k e))(hk:P.underlying k=some (.int kd))
  (r:Nat)(l:List (Int×Value))(hm:a.eval m= .map (some r))(h:fQ kd w r l)(z:Int)(u:Value)(hx:a.eval x= .int kd z)(hv:a.eval v=u)
  (hu:(l.all λq=>q.1 !=z)=true)(hK:∀w',fQ kd w' r (l++[(z,u)])->w.grownBy w' (some r)->wpList P ops Q rest (a.put o.dst undef) w'):
  wpList P ops Q (o :: rest) a w:=by
 refine Y6 hg λi c=>?_;obtain⟨w',b,f,g⟩:=Cj ht hk h z u (λq d=>by simpa using dL.1 hu q d);unfold Oper.wp;simp[execOp,hop,hm,hx,hv,b,Result.andThen];exact c _ _ (hK w' f g)
theorem nY{k:TypeId}{z:Value}(ht:P.underlying t=some (.map k e))(hk:P.underlying k=some (.int kd))(hz:(zeroValue e).run P w= .ok z w)(h:fQ kd w r l)(x:Int):
  (Instr.lookup t (.map (some r)) (.int kd x) false).run P w= .ok ((ia l x).getD z) w/\(Instr.lookup t (.map (some r)) (.int kd x) true).run P w= .ok (.tuple #[(ia l x).getD z,.bool (ia l x).isSome]) w:=by
 have g:=jW (P:=P) h;have c:=λb=>MapKept.run_checkKey (P:=P) (w:=w) (kt:=k) (d:=.int kd) (k:=.int kd x) hk rfl b 9999;obtain⟨o,j,i⟩:=qj (kd:=kd) x l 0 0;have f:=MapKept.run_findKey (P:=P) (w:=w) (kt:=k) (d:=.int kd) (k:=.int kd x) (l:=fB kd 0 l) (a:=o) hk j;unfold Instr.lookup;simp only[Sem.run_bind,run_underlying ht,g,c,Result.andThen,Sem.run_pure,f];rw[<-i];cases o with
 | none=>simp[hz]
 | some a=>simp[Sem.run_pure]
end
structure Mods (S:Nat->Prop) (w w':abP):Prop where
 os:w'.os=w.os
 tape:w'.tape=w.tape
 output:w'.output=w.output
 size:w.heap.size<=w'.heap.size
 block:∀i,i<w.heap.size->¬S i->w'.heap[i]? =w.heap[i]?
section
variable {S T:Nat->Prop} {w w' w'':abP}
theorem Mods.refl(w:abP):Mods S w w:=⟨rfl,rfl,rfl,ac _,λ_ _ _=>rfl⟩
theorem Mods.trans(h:Mods S w w')(h':Mods S w' w''):Mods S w w'':=
 ⟨h'.os.trans h.os,h'.tape.trans h.tape,h'.output.trans h.output,aC h.size h'.size,λi a b=>(h'.block i (YU a h.size) b).trans (h.block i a b)⟩
theorem Mods.mono(h:Mods S w w')(hs:∀i,i<w.heap.size->S i->T i):Mods T w w':=⟨h.os,h.tape,h.output,h.size,λi a b=>h.block i a (λx=>b (hs i a x))⟩
theorem qk(h:abQ w w'):Mods S w w':=⟨h.os,h.tape,h.output,h.size,λi a _=>h.block i a⟩
theorem qb(h:w.grownBy w' (some g))(hg:S g):Mods S w w':=⟨h.os,h.tape,h.output,h.size,λi a b=>h.block i a (λe=>b (by cases e;exact hg))⟩
theorem Mods.drewN(h:Mods S w w')(n:Nat):Mods S w (w'.drewN n):=⟨h.os,h.tape,h.output,h.size,h.block⟩
theorem Mods.alloc(h:Mods S w w')(o:Obj):Mods S w (w'.alloc o):=h.trans (qk ((aq _ _).alloc (ac _) o))
theorem Mods.set(h:Mods S w w')(g i:Nat)(hg:S g\/w.heap.size<=g)(u:Value):Mods S w (w'.setCell ⟨g,i,none⟩ u):=
 ⟨h.os,h.tape,h.output,by simpa [World.setCell]using h.size,λk b a=>(jz w' ⟨g,i,none⟩ u k (by
  rintro rfl;rcases hg with hg| hg
  ·exact a hg
  ·omega)).trans (h.block k b a)⟩
theorem Mods.below{w0:abP}(h0:Below B w0 w)(h:Mods S w w')(hB:B<=w.heap.size)(hs:∀i,S i->B<=i):Below B w0 w':=
 ⟨h.os.trans h0.os,h.tape.trans h0.tape,h.output.trans h0.output,aC h0.size h.size,λk a=>(h.block k (by omega) (λx=>by have:=hs k x;omega)).trans (h0.block k a)⟩
theorem Bk.mods(h:Bk w g t cs)(hm:Mods S w w')(hg:¬S g):Bk w' g t cs:=(hm.block g h.lt hg).trans h
theorem fQ.mods{kd:IntKind}{r:Nat}{l:List (Int×Value)}(h:fQ kd w r l)(hm:Mods S w w')(hg:¬S r):fQ kd w' r l:=(hm.block r h.lt hg).trans h
theorem jg(h:w.ownsRow base e k v n xs)(hm:Mods S w w')(hs:∀g,v.ownBlock=some g->¬S g):w'.ownsRow base e k v n xs:=by
 refine⟨h.1,?_⟩;rcases h.2 with b| ⟨g,cap,cur,rfl,c,a,d⟩
 ·exact .inl b
 ·exact .inr ⟨g,cap,cur,rfl,c,(hm.block g (cZ.1 a).1 (hs g rfl)).trans a,d⟩
end
end
def iv(l:List Int):List Value:=l.map (Value.int .i64)
theorem Qg(l:List Int):(iv l).length=l.length:=by simp[iv]
theorem Rd.atI{A:Option Addr}{l:List Int}(h:Rd w B 1 A n (iv l)){i:Nat}(hi:i<n):∃b o z,A=some ⟨b,o,none⟩/\b<B/\l[i]? =some z/\w.cell? ⟨b,o+i,none⟩=some (.int .i64 z):=by
 obtain⟨b,o,u,e,c,f,d⟩:=h.at1 hi;have a:i<l.length:=by have:=h.len;simp[iv]at this;omega
 refine⟨b,o,l[i],e,c,List.getElem?_eq_getElem a,?_⟩;have:u= .int .i64 l[i]:=by simpa [iv,a]using f.symm
 rw[<-this];exact d
theorem zj(A A':Option Addr)(n m c c':Nat)(l l':List Int)(w:abP)(hl:Rd w w.heap.size 1 A n (iv l))(hm:Rd w w.heap.size 1 A' m (iv l'))(hn:n<=9223372036854775807)(hn':m<=9223372036854775807):
  abR 34 #[.slice A n c,.slice A' m c'] w (.bool (decide (l=l'))):=by
 have v:l.length=n:=by have:=hl.len;simp[iv]at this;omega
 have x:l'.length=m:=by have:=hm.len;simp[iv]at this;omega
 have r:=aa v;have s:=aa x;clear v x
 by_cases b:n=m
 ·subst b;go_enter func34,ntmps34;go_wp2
  go_loopw [5] (λi wr=>∃k:Nat,k<=n/\i= .int .i64 k/\(∀j,j<k->l[j]? =l'[j]?)/\abQ w wr) (λi _=>n- (intOf i).toNat)
  case atStart=>exact⟨0,by omega,rfl,λj g=>by omega,aq _ _⟩
  case round=>
   obtain⟨k,M,rfl,d,a⟩:=hrel;have t:=aa d;clear d
   by_cases p:k<n
   ·obtain⟨J,N,z,rfl,K,y,L⟩:=(hl.below a).atI p;obtain⟨F,I,B,rfl,G,q,H⟩:=(hm.below a).atI p;have u:=aa y;have o:=aa q;clear y q hl hm
    have b1:(0:Int)<=(k:Int):=by omega
    have b2:(k:Int)<(n:Int):=by omega
    by_cases f:z=B
    ·subst f;go_wp2;go_quiet (fail);go_wp2;go_roundw
     case rel=>
      refine⟨k+1,by omega,by go_num,λj g=>?_,aV a _⟩;rcases dx.1 g with h| rfl
      ·exact t.o j h
      ·rw[u.o,o.o]
     case measure=>simp[intOf];omega
    ·have E:(z !=B)=true:=by simpa using f
     have C:=aa f;clear f
     go_wp2;go_quiet (fail);go_wp2;go_ret;refine⟨?_,aV a _⟩;have:l≠l':=by
      rintro rfl;have:=u.o.symm.trans o.o;exact C.o (by simpa using this)
     simp[this]
   ·go_wp2;go_ret;refine⟨?_,a⟩;have:l=l':=by
     apply dM;intro j;by_cases g:j<k
     ·exact t.o j g
     ·rw[aG (by have:=r.o;omega),aG (by have:=s.o;omega)]
    simp[this]
 ·have E:((n:Int) != (m:Int))=true:=by simpa using (by omega:¬(n:Int)=(m:Int))
  have D:=aa b;clear b
  go_enter func34,ntmps34;go_wp2;go_ret;refine⟨?_,aq _ _⟩;have:l≠l':=by
   rintro rfl;exact D.o (r.o.symm.trans s.o)
  simp[this]
theorem ku:(prog.info? 5).map (λi=>(i.zero,i.size,i.bytes))=some (some (.int .u8 0),1,1):=by kernel_rfl
def Yk(n k:Nat):List UInt8:=(List.range k).map λj=>if k- 1- j<8 then UInt8.ofNat (n/ 2^ (8*(k- 1- j)))else 0
theorem fM(n k:Nat):(Yk n k).length=k:=by simp[Yk]
def uM(n k i j:Nat):Value:=if k- 1- j<i then .int .u8 ((if k- 1- j<8 then UInt8.ofNat (n/ 2^ (8*(k- 1- j)))else 0:UInt8).toNat:Int)else .int .u8 0
theorem abG{f:Nat->Value}(h:w.rowIs g t n f)(l:List UInt8)(hl:l.length=n)(hf:∀i (hi:i<l.length),f i= .int .u8 (l[i].toNat:Int)):Rd w w.heap.size 1 (some ⟨g,0,none⟩) n (bys l):=by
 refine⟨by simp[bys,hl],.inr ⟨g,0,rfl,h.lt,λj u a=>?_⟩⟩;have b:j<l.length:=by
  rcases fj j l.length with h| h
  ·exact h
  ·rw[aG (by simpa [bys]using h)]at a;cases a
 rw[bV,h.cell (by omega),hf j b]
 simpa [bys,b]using a
theorem pD(n k:Nat)(w:abP)(hn:n<18446744073709551616)(hk:0<k)(hk2:k<=16):
  abR 83 #[.int .u64 n,.int .i64 k] w (.string ⟨(Yk n k).toArray⟩):=by
 have u:=λW=>run_make_row' (P:=prog) 139 5 (.int .u8 0) 1 underlying139 ku rfl .i64 .i64 k (by omega) (by omega) W;have v:=aa hn;clear hn
 have s:decide (k=0)=false:=ah (by omega);go_enter func83,ntmps83;go_wp2
 go_loopw [14] (λi wr=>∃j:Nat,j<=k/\i= .int .i64 j/\wr.rowIs w.heap.size 5 k (uM n k j)/\abQ w wr) (λi _=>k- (intOf i).toNat)
 case atStart=>exact⟨0,by omega,rfl,(World.rowIs_made w _ k _).congr λi _=>by simp[uM],(aq _ _).alloc (ac _) _⟩
 case round=>
  obtain⟨j,A,rfl,a,b⟩:=hrel;by_cases t:j<k
  ·by_cases q:j<8
   ·have y:=a.cell (i:=k- 1- j) (by omega);have z:=a.frozen (k- 1- j);have f:=aa a;clear a
    have x:((k:Int) - 1- j)=((k- 1- j:Nat):Int):=by omega
    go_wp2;go_roundw
    case rel=>
     refine⟨j+1,by omega,by go_num,?_,b.setCell (by simp) _⟩;refine(f.o.set (k- 1- j) _).congr λi g=>?_;unfold uM;by_cases l:i=k- 1- j
     ·subst l;have o:k- 1- (k- 1- j)=j:=by omega
      rw[if_pos rfl,o,if_pos (by omega),if_pos q];have p:(n:Int) / 2^ (8*j)=((n/ 2^ (8*j):Nat):Int):=by simp
      rw[p,UInt8.toNat_ofNat'];rfl
     ·rw[Fl l];by_cases c:k- 1- i<j
      ·rw[if_pos c,if_pos (show k- 1- i<j+1 by omega)]
      ·rw[Fl c,Fl (show ¬k- 1- i<j+1 by omega)]
    case measure=>simp[intOf];omega
   ·have f:=aa a;clear a
    have r:(8:Int)<=(j:Int):=by omega
    go_wp2;go_roundw
    case rel=>
     refine⟨j+1,by omega,by go_num,f.o.congr λi g=>?_,b⟩;unfold uM;by_cases c:k- 1- i<j
     ·rw[if_pos c,if_pos (show k- 1- i<j+1 by omega)]
     ·rw[Fl c];by_cases h:k- 1- i<j+1
      ·rw[if_pos h,Fl (show ¬k- 1- i<8 by omega)];rfl
      ·rw[Fl h]
    case measure=>simp[intOf];omega
  ·obtain rfl:j=k:=by omega
   have d:Rd wr wr.heap.size 1 (some ⟨w.heap.size,0,none⟩) j (bys (Yk n j)):=abG a _ (fM n j) λi g=>by
    rw[fM]at g;unfold uM;rw[if_pos (by omega)];simp[Yk]
   have m:=ni (P:=prog) 139 9 5 underlying139 underlying5 underlying9 j d;clear a d;go_wp2;go_ret;exact⟨rfl,b⟩
def YZ(l:List UInt8):Nat:=l.foldl (λn b=>n*256+b.toNat) 0
theorem Ag(l:List UInt8)(b:UInt8):YZ (l++[b])=YZ l*256+b.toNat:=by simp[YZ]
theorem vw:∀(l:List UInt8) (n:Nat),l.foldl (λn b=>n*256+b.toNat) n<(n+1)*256^ l.length
 | [],n=>by simp
 | b :: l,n=>by
   have h:=vw l (n*256+b.toNat);have a:=b.toNat_lt;simp only[jq,bM,Nat.pow_succ];refine YU h ?_;rw[eV (256^ l.length) 256,<-Nat.mul_assoc];exact iH _ (by omega)
theorem ka(l:List UInt8):YZ l<256^ l.length:=by
 have:=vw l 0
 simpa [YZ]using this
theorem Fw(n:Nat)(b:UInt8)(h:n<72057594037927936):bits BinOp.or IntKind.u64 (IntKind.u64.wrap ((n:Int)*256)) (b.toNat:Int)=((n*256+b.toNat:Nat):Int):=by
 have a:=b.toNat_lt;have e:IntKind.u64.wrap ((n:Int)*256)=((n*256:Nat):Int):=by rw[iZ];omega
 rw[e,u64_or_nat _ _ (by omega) (by omega)];have:n*256 ||| b.toNat=n*256+b.toNat:=by
  have:=Nat.two_pow_add_eq_or_of_lt (i:=8) (b:=b.toNat) (by omega) n;rw[show n*256=2^ 8*n by omega,this]
 rw[this]
def ls(s:abO):List UInt8:=s.data.toList
theorem aN(s:abO):(ls s).length=s.size:=fT
theorem uY(s:abO)(i:Nat)(h:i<s.size):(ls s)[i]'(by rw[aN];exact h)=s[i]:=by
 simp[ls];rfl
theorem eX{s t:abO}(h:ls s=ls t):s=t:=by
 cases s;cases t
 congr 1
 exact Array.ext' h
theorem jo(l:List UInt8):ls ⟨l.toArray⟩=l:=by simp[ls]
theorem Ck(s:abO):(⟨(ls s).toArray⟩:abO)=s:=by cases s;simp[ls]
theorem th(s:abO)(i:Nat)(h:i<s.size):(ls s).take (i+1)=(ls s).take i++[s[i]]:=by
 rw[fE (by rw[aN];exact h),uY s i h]
theorem yU(b:UInt8):IntKind.u64.wrap (b.toNat:Int)=(b.toNat:Int):=by
 have:=b.toNat_lt;rw[iZ];omega
theorem jA(s:abO)(w:abP)(hs:s.size<=8):
  abT 176 #[.string s] w (.int .u64 (YZ (ls s))):=by
 go_enter func176,ntmps176;go_wp2
 go_loop [3,15] (λn i=>∃k:Nat,k<=s.size/\i= .int .i64 k/\n= .int .u64 (YZ ((ls s).take k))) (λ_ i=>s.size- (intOf i).toNat)
 case atStart=>exact⟨0,by omega,rfl,rfl⟩
 case round=>
  obtain⟨k,h,rfl,rfl⟩:=hrel;by_cases c:k<s.size
  ·have a:YZ ((ls s).take k)<72057594037927936:=by
    have b:=ka ((ls s).take k);have f:((ls s).take k).length=k:=by rw[cY,aN];omega
    rw[f]at b;exact YU b (aC (df (by omega) (by omega:k<=7)) (by decide))
   have d:Hid (((YZ ((ls s).take (k+1)):Nat):Int)=bits BinOp.or IntKind.u64 (IntKind.u64.wrap ((YZ ((ls s).take k):Int)*256)) (IntKind.u64.wrap (s[k].toNat:Int))):=by
    show _=_;rw[yU,Fw _ _ a,th s k c,Ag]
   generalize YZ ((ls s).take k)=n at*;have g:=aa a;clear a
   go_wp2
   go_round
   case rel=>exact⟨k+1,by omega,by go_num,by rw[d.o]⟩
   case measure=>simp[intOf];omega
  ·obtain rfl:k=s.size:=by omega
   go_wp2;go_ret;refine⟨?_,rfl⟩;show Ending.returned (.int .u64 (YZ ((ls s).take s.size)))=_;rw[bt (by rw[aN];exact ac _)]
def Am(t:abO)(at_:Nat)(e:Int):Array Value:=#[.string t,.int .i64 at_,.int .i64 e]
abbrev CT:TypeId:=191
def Cur(w:abP)(g:Nat)(t:abO)(a:Nat)(e:Int):Prop:=Bk w g CT (Am t a e)/\a<=t.size/\t.size<=4611686018427387904
theorem Cur.cells{t:abO}{e:Int}(h:Cur w g t a e):(w.cell? ⟨g,0,none⟩=some (.string t)/\w.cell? ⟨g,1,none⟩=some (.int .i64 a)/\w.cell? ⟨g,2,none⟩=some (.int .i64 e))/\w.frozen? ⟨g,0,none⟩=false/\w.frozen? ⟨g,1,none⟩=false/\w.frozen? ⟨g,2,none⟩=false:=h.1.three
theorem Cur.lt{t:abO}{e:Int}(h:Cur w g t a e):g<w.heap.size:=h.1.lt
theorem jL(s:abO)(w:abP)(hs:s.size<=4611686018427387904):
  Calls prog 148 #[.string s] w λe w'=>e= .returned (.pointer (some ⟨w.heap.size,0,none⟩))/\Cur w' w.heap.size s 0 0/\abQ w w':=by
 go_enter func148,ntmps148;go_wp2;go_ret;exact⟨rfl,⟨Bk.fresh _ _ _,by omega,hs⟩,(aq _ _).alloc (ac _) _⟩
theorem kh(g a:Nat)(t:abO)(e:Int)(w:abP)(h:Cur w g t a e):
  Calls prog 224 #[.pointer (some ⟨g,0,none⟩)] w λe' w'=>e'= .returned (.bool (e==0))/\w=w':=by
 obtain⟨⟨b,c,d⟩,_⟩:=h.cells;clear h;go_enter func224,ntmps224;go_wp2;go_ret;exact⟨rfl,rfl⟩
def jQ(t:abO)(a:Nat)(n:Int):Bool:=decide (0<=n)&&decide (n<=(t.size:Int) - a)
theorem vu(g a:Nat)(t:abO)(e:Int)(n:Int)(w:abP)(h:Cur w g t a e):
  Calls prog 231 #[.pointer (some ⟨g,0,none⟩),.int .i64 n] w λe' w'=>e'= .returned (.bool (jQ t a n))/\abQ w w':=by
 obtain⟨⟨i,j,k⟩,_⟩:=h.cells;obtain⟨_,l,m⟩:=h;by_cases c:0<=n
 ·have b:jQ t a n=decide (n<=(t.size:Int) - a):=by simp[jQ,c]
  have d:=aa b;clear b
  have f:decide (0<=n)=true:=au c;go_enter func231,ntmps231;go_wp2;go_quiet (fail);go_wp2;go_ret;exact⟨by rw[d.o];rfl,aV (aq _ _) _⟩
 ·have b:jQ t a n=false:=by simp[jQ,c]
  have d:=aa b;clear b
  have f:decide (0<=n)=false:=ah c;go_enter func231,ntmps231;go_wp2;go_quiet (fail);go_wp2;go_ret;exact⟨by rw[d.o];rfl,aV (aq _ _) _⟩
def aH(t:abO)(a:Nat)(e n:Int):abO×Nat×Int:=
 if e=0 then(if jQ t a n=true then(t.extract a (a+n.toNat),a+n.toNat,0)else(⟨#[]⟩,a,3))else(⟨#[]⟩,a,e)
theorem dy{t:abO}(h:a<=t.size)(e n:Int):(aH t a e n).2.1<=t.size:=by
 unfold aH;split
 ·split
  ·rename_i b;simp only[jQ,eh,cH]at b;show a+n.toNat<=t.size;omega
  ·exact h
 ·exact h
theorem Bk.upd(h:Bk w g t cs)(i:Nat)(u:Value){cs':Array Value}(e:cs.setIfInBounds i u=cs'):Bk (w.setCell ⟨g,i,none⟩ u) g t cs':=by
 subst e;exact h.put i u
theorem YR(w:abP)(g i:Nat)(u:Value):w.grownBy (w.setCell ⟨g,i,none⟩ u) (some g):=
 ⟨rfl,rfl,rfl,by simp[World.setCell],λk _ a=>jz _ _ _ _ (λe=>a (by rw[e]))⟩
theorem Yn(w:abP)(g:Nat):w.grownBy w (some g):=jy w _
theorem Y7(h:abQ w w')(g:Option Nat):w.grownBy w' g:=⟨h.os,h.tape,h.output,h.size,λk a _=>h.block k a⟩
theorem nW{g:Option Nat}(h:w.grownBy w' g)(n:Nat):w.grownBy (w'.drewN n) g:=⟨h.os,h.tape,h.output,h.size,h.block⟩
theorem dw{a:abP}(h:Below B a w)(hm:w.grownBy w' (some g))(hB:B<=w.heap.size)(hg:B<=g):Below B a w':=
 h.grown hm hB (λk b=>by cases b;exact hg)
theorem Cur.below{t:abO}{e:Int}(h:Cur w g t a e)(hb:abQ w w'):Cur w' g t a e:=⟨h.1.below hb h.lt,h.2⟩
theorem Cur.at_most{t:abO}{e:Int}(h:Cur w g t a e):a<=t.size/\t.size<=4611686018427387904:=h.2
theorem eo(g a:Nat)(t:abO)(e:Int)(n:Int)(w:abP)(h:Cur w g t a e):
  Calls prog 166 #[.pointer (some ⟨g,0,none⟩),.int .i64 n] w λe' w'=>
   e'= .returned (.string (aH t a e n).1)/\Cur w' g t (aH t a e n).2.1 (aH t a e n).2.2/\w.grownBy w' (some g):=by
 have f:=aa h;have k:=aa (dy h.2.1 e n);obtain⟨_,E,v⟩:=h;by_cases l:e=0
 ·subst l;cases i:jQ t a n with
  | true=>
    have b:aH t a 0 n=(t.extract a (a+n.toNat),a+n.toNat,0):=by simp[aH,i]
    have s:0<=n/\n<=(t.size:Int) - a:=by simpa [jQ]using i
    obtain⟨m,rfl⟩:=JL s.1;rw[b]at k⊢;have p:=aa i;clear i b
    have u:a+m<=t.size:=by omega
    clear s;go_enter func166,ntmps166;go_wp2_with fail;refine(kh g a t 0 _ f.o).mono ?_;rintro e w' ⟨rfl,rfl⟩;go_wp2_with fail;refine Yg (vu g a t 0 _ _ f.o) λx d=>?_;rw[p.o];have c:=f.o.below d;obtain⟨⟨z,A,B⟩,C,f1,D⟩:=c.cells;have o:=aa d;have j:=aa c;clear d c
    have F:(0:Int)<=(a:Int):=by omega
    have G:(a:Int)<=(a:Int)+(m:Int):=by omega
    have H:(a:Int)+(m:Int)<=(t.size:Int):=by omega
    have q:Hid (Cur (x.setCell ⟨g,1,none⟩ (.int .i64 ((a:Int)+m))) g t (a+m) 0):=by
     refine⟨j.o.1.upd 1 _ ?_,u,v⟩;simp[Am]
    go_wp2;go_quiet (fail);go_wp2;go_ret;refine⟨rfl,q.out,?_⟩;exact(nW ((Y7 o.o (some g)).trans (YR _ _ _ _)) _)
  | false=>
    have b:aH t a 0 n=(⟨#[]⟩,a,3):=by simp[aH,i]
    rw[b]at k⊢;have p:=aa i;clear i b
    go_enter func166,ntmps166;go_wp2_with fail;refine(kh g a t 0 _ f.o).mono ?_;rintro e w' ⟨rfl,rfl⟩;go_wp2_with fail;refine Yg (vu g a t 0 _ _ f.o) λx d=>?_;rw[p.o];have c:=f.o.below d;obtain⟨⟨z,A,B⟩,C,f1,D⟩:=c.cells;have o:=aa d;have j:=aa c;clear d c
    go_wp2;go_ret;refine⟨rfl,⟨j.o.1.upd 2 _ ?_,E,v⟩,(Y7 o.o (some g)).trans (YR _ _ _ _)⟩;simp[Am]
 ·have b:aH t a e n=(⟨#[]⟩,a,e):=by simp[aH,l]
  rw[b]at k⊢;have r:(e==0)=false:=by simpa using l
  have y:=aa r;clear b r l
  go_enter func166,ntmps166;go_wp2_with fail;refine(kh g a t e _ f.o).mono ?_;rintro e w' ⟨rfl,rfl⟩;rw[y.o];go_wp2;go_ret;exact⟨rfl,f.o,Yn _ _⟩
theorem kI{t:abO}(_h:a<=t.size)(e n:Int)(k:Nat)(hn:n<=k):(aH t a e n).1.size<=k:=by
 unfold aH;split
 ·split
  ·show(t.extract a (a+n.toNat)).size<=k;rw[aj];omega
  ·exact ag _
 ·exact ag _
def br(t:abO)(a:Nat)(e n:Int):Nat:=YZ (ls (aH t a e n).1)
theorem dR(g a:Nat)(t:abO)(e:Int)(n:Int)(w:abP)(h:Cur w g t a e)(hn:n<=8):
  Calls prog 157 #[.pointer (some ⟨g,0,none⟩),.int .i64 n] w λe' w'=>
   e'= .returned (.int .u64 (br t a e n))/\Cur w' g t (aH t a e n).2.1 (aH t a e n).2.2/\w.grownBy w' (some g):=by
 have i:=aa (kI h.2.1 e n 8 hn);have d:=aa h;clear h
 go_enter func157,ntmps157;go_wp2_with fail;refine(eo g a t e n _ d.o).mono ?_;rintro e' j ⟨rfl,b,c⟩;go_wp2_with fail;refine(jA _ _ i.o).mono ?_;rintro e' w' ⟨rfl,rfl⟩;have f:=aa (And.intro b c);clear b c
 go_wp2;go_ret;exact⟨rfl,f.o⟩
theorem cB(g a:Nat)(t:abO)(e:Int)(n:Int)(w:abP)(h:Cur w g t a e):
  Calls prog 159 #[.pointer (some ⟨g,0,none⟩),.int .i64 n] w λe' w'=>
   e'= .returned (.tuple #[])/\Cur w' g t a (if e=0 then n else e)/\w.grownBy w' (some g):=by
 have b:=aa h;obtain⟨⟨i,j,k⟩,l,f1,m⟩:=h.cells;clear h;by_cases c:e=0
 ·subst c;rw[if_pos rfl];go_enter func159,ntmps159;go_wp2_with fail;refine(kh g a t 0 _ b.o).mono ?_;rintro e w' ⟨rfl,rfl⟩;go_wp2
  go_end0
  refine⟨rfl,⟨b.o.1.upd 2 _ ?_,b.o.2⟩,YR _ _ _ _⟩;simp[Am]
 ·rw[Fl c];have d:(e==0)=false:=by simpa using c
  have f:=aa d;clear d c
  go_enter func159,ntmps159;go_wp2_with fail;refine(kh g a t e _ b.o).mono ?_;rintro e w' ⟨rfl,rfl⟩;rw[f.o];go_wp2
  go_end0
  exact⟨rfl,b.o,Yn _ _⟩
theorem dG(g a:Nat)(t:abO)(e:Int)(w:abP)(h:Cur w g t a e):
  Calls prog 153 #[.pointer (some ⟨g,0,none⟩)] w λe' w'=>e'= .returned (.int .i64 e)/\w=w':=by
 obtain⟨⟨b,c,d⟩,f,f1,i⟩:=h.cells;clear h;go_enter func153,ntmps153;go_wp2;go_ret;exact⟨rfl,rfl⟩
theorem jG(g a:Nat)(t:abO)(e:Int)(w:abP)(h:Cur w g t a e):
  Calls prog 165 #[.pointer (some ⟨g,0,none⟩)] w λe' w'=>e'= .returned (.string (t.extract a t.size))/\abQ w w':=by
 obtain⟨⟨b,c,d⟩,f,f1,i⟩:=h.cells;obtain⟨_,j,k⟩:=h;have l:(0:Int)<=(a:Int):=by omega
 have m:(a:Int)<=(t.size:Int):=by omega
 go_enter func165,ntmps165;go_wp2;go_quiet (fail);go_wp2;go_ret;exact⟨rfl,aV (aq _ _) _⟩
theorem eI(g a:Nat)(t:abO)(e:Int)(w:abP)(h:Cur w g t a e):
  Calls prog 152 #[.pointer (some ⟨g,0,none⟩)] w λe' w'=>e'= .returned (.int .i64 ((t.size- a:Nat):Int))/\abQ w w':=by
 have c:=aa h;clear h
 go_enter func152,ntmps152;go_wp2_with fail;refine Yg (jG g a t e _ c.o) λi f=>?_;have b:(t.extract a t.size).size=t.size- a:=by rw[aj];omega
 have d:=aa b;clear b
 generalize t.extract a t.size=r at*;go_wp2;go_ret;exact⟨by rw[<-d.o];rfl,f⟩
