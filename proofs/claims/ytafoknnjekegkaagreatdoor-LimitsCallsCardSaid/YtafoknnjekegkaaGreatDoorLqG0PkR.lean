/- Parts: PkR, MsR, MsA, MqC, MqD, MqE, MqF, MsP, MsE, LimP. -/
import Derived.Test.YtafoknnjekegkaaGreatDoorLqG0HdC
set_option maxRecDepth 10000
set_option maxHeartbeats 8000000
namespace Go.Proofs.YtafoknnjekegkaaGreatDoor
open Go.RowKit Go.Proofs.Tryz
variable {w w' y:abP}{g n i B:Nat}{p:Pk}{L:List (Pk×Hs)}{A:Option Addr}{h:Hs}{v k:Int}{l:List Int}{t:abO}{a b:Value}
section
def pks(L:List (Pk×Hs)):List Value:=L.flatMap λx=>(pkC x.1 x.2).toList
theorem kM(x:Pk×Hs):((pkC x.1 x.2).toList).length=25:=rfl
theorem gJ(L:List (Pk×Hs)):(pks L).length=L.length*25:=iA kM L
theorem Ef:pks []=[]:=rfl
theorem m6(x:Pk×Hs)(L:List (Pk×Hs)):pks (x :: L)=(pkC x.1 x.2).toList++pks L:=rfl
theorem pE(L M:List (Pk×Hs)):pks (L++M)=pks L++pks M:=by
 unfold pks;rw[fR]
theorem mG(L:List (Pk×Hs))(i r:Nat)(h:i<L.length)(hr:r<25):(pks L)[i*25+r]? =(pkC L[i].1 L[i].2)[r]? :=by
 have:=kQ kM L i r h hr;rw[show pks L=L.flatMap λx=>(pkC x.1 x.2).toList from rfl,this];simp
theorem ln:∀(L:List (Pk×Hs)) (n:Nat),(pks L).take (n*25)=pks (L.take n)
 | L,0=>by simp[pks]
 | [],n+1=>by simp[pks]
 | x :: L,n+1=>by
   rw[GG,m6,m6,ot,bt (by rw[kM x];omega),kM x,show(n+1)*25- 25=n*25 by omega,ln L n]
theorem uR:∀(L:List (Pk×Hs)) (n:Nat),(pks L).drop (n*25)=pks (L.drop n)
 | L,0=>by simp
 | [],n+1=>by simp[pks]
 | x :: L,n+1=>by
   rw[ji,m6,List.drop_append,gD (by rw[kM x];omega),kM x,show(n+1)*25- 25=n*25 by omega,uR L n,dX]
theorem Ee(L:List (Pk×Hs)):∀u∈pks L,u.oneCell'=true:=by
 intro u a;obtain⟨x,-,b⟩:=ou.1 a;have h:=yy x.1 x.2;rw[Array.all_eq_true_iff_forall_mem]at h;exact h u (by simpa using b)
theorem yx{o:Nat}{v:Value}(h:(pks L)[o]? =some v):∃i r,o=i*25+r/\r<25/\i<L.length:=by
 have a:=(YI.1 h).1;rw[gJ]at a;exact⟨o/ 25,o% 25,by omega,by omega,by omega⟩
theorem uQ(L:List (Pk×Hs)):∀(i:Nat) (n:Int),(pks L).toArray[i]? ≠some (Value.int IntKind.u32 n):=by
 intro o n h;rw[ay]at h;obtain⟨i,r,rfl,b,a⟩:=yx h;rw[mG L i r a b]at h;exact dY _ _ _ _ h
theorem BN(L:List (Pk×Hs))(o:Nat)(a:abO)(b:Int)(_c d:Bool)(h0:(pks L).toArray[o]? =some (.string a))(h1:(pks L).toArray[o+1]? =some (.int .i64 b))(h3:(pks L).toArray[o+3]? =some (.bool d)):False:=by
 rw[ay]at h0 h1 h3;obtain⟨i,r,rfl,g,c⟩:=yx h0;rw[mG L i r c g]at h0;have e:r+1<25->(pkC L[i].1 L[i].2)[r+1]? =some (.int .i64 b):=λh=>by rw[<-mG L i (r+1) c h,<-Nat.add_assoc];exact h1
 have f:r+3<25->(pkC L[i].1 L[i].2)[r+3]? =some (.bool d):=λh=>by rw[<-mG L i (r+3) c h,<-Nat.add_assoc];exact h3
 clear h1 h3;generalize L[i]=x at*;rcases r with _| _| _| _| _| _| _| _| _| _| _| _| _| _| _| _| _| _| _| _| _| _| _| _| _| r
 all_goals first| (simp[pkC]at h0;done) | (simp[pkC]at e;done) | (simp[pkC]at f;done) | omega
theorem BM(n:Nat):(Builtin.zeroCells (pkC pk0 hs0) n).toList=pks (List.replicate n (pk0,hs0)):=by
 apply dM;intro j;by_cases c:j<n*25
 ·have h:=mG (List.replicate n (pk0,hs0)) (j/ 25) (j% 25) (by simp;omega) (by omega);rw[show j/ 25*25+j% 25=j by omega]at h;have b:(pkC pk0 hs0)[j% 25]? =some ((pkC pk0 hs0)[j% 25]!):=by
   have a:j% 25<(pkC pk0 hs0).size:=by rw[bo];omega
   rw[eL a,getElem!_pos (pkC pk0 hs0) (j% 25) a]
  rw[h,List.getElem_replicate,b];simp[Builtin.zeroCells,bo,c]
 ·rw[aG (by rw[fT,size_zeroCells,bo];omega),aG (by rw[gJ,List.length_replicate];omega)]
theorem Rd.otherN{w':abP}{l:List Fi}{t:TypeId}{cs:Array Value}(h:Rd w B 5 A l.length (fis l))(hbk:Bk w g t cs)
  (hcs:∀(o:Nat) (a:abO) (b:Int) (_c d:Bool),cs[o]? =some (.string a)->cs[o+1]? =some (.int .i64 b)->cs[o+3]? =some (.bool d)->False)(hm:w.grownBy w' (some g))(hB:B<=w.heap.size):Rd w' B 5 A l.length (fis l):=by
 refine h.grown hm hB ?_;rintro b o rfl n rfl;cases l with
 | nil=>exact n rfl
 | cons f l=>
   obtain⟨p,q,e,-,c,j,m,k,-⟩:=h.atF (i:=0) (by simp);simp only[aX,Addr.mk.injEq]at e;obtain⟨rfl,rfl,-⟩:=e;rw[hbk.cell]at c j m k;simp only[jU,jV,List.getElem_cons_zero]at c j m k;exact hcs o _ _ false _ c j k
def gG(g:Nat)(x:Pk×Hs):Prop:=x.1.codes=[]\/∀b o,x.2.codes.a=some ⟨b,o,none⟩->b≠g
theorem FI(h:iv l=[]):l=[]:=by
 cases l with
 | nil=>rfl
 | cons z l=>simp[iv]at h
theorem PkIn.apart(hi:PkIn w B p h)(hg:B<=g):gG g (p,h):=by
 rcases hi.codes.2 with a| ⟨b,o,c,f,-⟩
 ·exact .inl (FI a)
 ·refine .inr λd i e=>?_;dsimp only at e;rw[c]at e;cases e;omega
theorem ja.apart(hf:ja w p h)(hg:g<w.heap.size):gG g (p,h):=by
 rcases hf with a| a
 ·exact .inl a
 ·exact .inr λb o e=>by have:=a b o e;omega
theorem PkIn.row{x:abP}(hi:PkIn x x.heap.size p h)(hbk:Bk x g PkT (pks L).toArray)(hm:x.grownBy y (some g))(hf:gG g (p,h)):PkIn y y.heap.size p h:=by
 refine⟨(hi.wp.other hbk (uQ L) hm (ac _)).wider hm.size,?_,(hi.filters.otherN hbk (BN L) hm (ac _)).wider hm.size,(hi.props.other hbk (uQ L) hm (ac _)).wider hm.size,hi.caps⟩;refine(hi.codes.grown hm (ac _) ?_).wider hm.size;intro b o e a;rcases hf with h| h
 ·dsimp only at h;rw[h]at a;exact absurd rfl a
 ·exact h b o e
structure RowK (w0 w:abP) (A:Option Addr) (n c:Nat) (L:List (Pk×Hs)):Prop where
 len:L.length=n
 lies:(A=none/\n=0/\c=0)\/∃g M,A=some ⟨g,0,none⟩/\w0.heap.size<=g/\Bk w g PkT (pks M).toArray/\M.length=c/\n<=c/\c<=maxLen/\M.take n=L
section
variable {w0 w y:abP} {A:Option Addr} {n c:Nat} {L:List (Pk×Hs)}
theorem RowK.start(w0 w:abP):RowK w0 w none 0 0 []:=⟨rfl,.inl ⟨rfl,rfl,rfl⟩⟩
theorem RowK.below(h:RowK w0 w A n c L)(hb:abQ w y):RowK w0 y A n c L:=by
 refine⟨h.len,?_⟩;rcases h.lies with a| ⟨g,M,a,d,b,e⟩
 ·exact .inl a
 ·exact .inr ⟨g,M,a,d,b.below hb b.lt,e⟩
theorem RowK.block(h:RowK w0 w A n c L){o:Nat}(e:A=some ⟨g,o,none⟩):w0.heap.size<=g/\g<w.heap.size:=by
 rcases h.lies with ⟨a,-⟩ | ⟨f,M,a,b,d,-⟩
 ·rw[a]at e;cases e
 ·rw[a]at e;cases e
  exact⟨b,d.lt⟩
theorem RowK.own(h:RowK w0 w A n c L)(e:(Value.slice A n c).ownBlock=some g):w0.heap.size<=g/\g<w.heap.size:=by
 cases A with
 | none=>cases e
 | some a=>
   obtain⟨b,o,s⟩:=a;rcases h.lies with ⟨d,-⟩ | ⟨j,M,d,f,i,-⟩
   ·cases d
   ·cases d;simp only[Value.ownBlock,aX]at e;subst e;exact⟨f,i.lt⟩
theorem RowK.cap(h:RowK w0 w A n c L):n<=c:=by
 rcases h.lies with ⟨-,a,-⟩ | ⟨g,M,a,b,d,e,f,i,j⟩<;>omega
theorem RowK.rd(h:RowK w0 w A n c L):Rd w w.heap.size 25 A n (pks L):=by
 refine⟨by rw[gJ,h.len],?_⟩;rcases h.lies with ⟨-,b,-⟩ | ⟨g,M,b,f,d,i,k,l,e⟩
 ·refine .inl ?_;have:=h.len;rw[aF (by omega:L.length=0)];rfl
 ·refine .inr ⟨g,0,b,d.lt,λj u a=>?_⟩;rw[bV,d.cell,ay];rw[<-e,<-ln,List.getElem?_take]at a;split at a
  ·exact a
  ·cases a
theorem RowK.keep(h:RowK w0 w A n c L)(hm:w.grownBy y (Value.slice A n c).ownBlock){k:Hs}(hi:PkIn w w.heap.size p k)(ha:∀g o,A=some ⟨g,o,none⟩->gG g (p,k)):PkIn y y.heap.size p k:=by
 rcases h.lies with ⟨rfl,-⟩ | ⟨g,M,rfl,-,a,-⟩
 ·exact hi.next ⟨hm.os,hm.tape,hm.output,hm.size,λi hi=>hm.block i hi (by simp[Value.ownBlock])⟩
 ·exact hi.row a hm (ha g 0 rfl)
end
theorem vm:(prog.info? PkT).map (λi=>(i.zero,i.size,i.bytes))=some (some (pkV pk0 hs0),25,312):=by kernel_rfl
theorem Bo{w0:abP}{c:Nat}(hr:RowK w0 w A n c L)(h0:w0.heap.size<=w.heap.size)(ty:TypeId)(X:Addr)(N:List (Pk×Hs))(m cx B:Nat)(hN:N.length=m)(hm:0<m)(hs:Rd w B 25 (some X) m (pks N))(hb:n+m<=100000000000):
  ∃g c' w',(Builtin.append_ #[33,33] ty #[.slice A n c,.slice (some X) m cx]).run prog w= .ok (.slice (some ⟨g,0,none⟩) (n+m) c') w'/\
   RowK w0 w' (some ⟨g,0,none⟩) (n+m) c' (L++N)/\w.grownBy w' (Value.slice A n c).ownBlock/\((Value.slice A n c).ownBlock=some g\/g=w.heap.size)/\g<w'.heap.size:=by
 obtain⟨i,z,J,d,y⟩:=o8 vm;have D:=underlying33;have K:(pkV pk0 hs0).cells=pkC pk0 hs0:=rfl;have h:(pks N).length=m*i.size:=by rw[gJ,hN,d]
 have b:(L++N).length=n+m:=by rw[List.length_append,hr.len,hN]
 have l:∀j u,(pks N)[j]? =some u->w.cell? (X.add j)=some u:=by
  obtain⟨V,e,-,S⟩:=hs.addr (by
   intro e;have:=gJ N;rw[e]at this;simp at this;omega)
  cases e;exact S
 have grown:∀(a old:Nat),a=n+m->old<a->RowK w0 (w.drew.alloc (.cells ((pks L).toArray++(pks N).toArray++Builtin.zeroCells (pkV pk0 hs0).cells (grownCap w a old PkT- a)) PkT)) (some ⟨w.heap.size,0,none⟩) a (grownCap w a old PkT) (L++N)/\
   (∀row,w.grownBy (w.drew.alloc (.cells ((pks L).toArray++(pks N).toArray++Builtin.zeroCells (pkV pk0 hs0).cells (grownCap w a old PkT- a)) PkT)) row)/\w.heap.size<(w.drew.alloc (.cells ((pks L).toArray++(pks N).toArray++Builtin.zeroCells (pkV pk0 hs0).cells (grownCap w a old PkT- a)) PkT)).heap.size:=by
  intro a old v T;have G:=grownCap_ge w a old PkT;have F:grownCap w a old PkT<=maxLen:=grownCap_le_maxLen w a old PkT (by unfold maxLen;omega);refine⟨⟨by rw[b,v],.inr ⟨w.heap.size,L++N++List.replicate (grownCap w a old PkT- a) (pk0,hs0),rfl,h0,?_,?_,G,F,?_⟩⟩,λrow=>⟨rfl,rfl,rfl,by simp,λk C _=>heap_alloc_old w.drew _ C⟩,by simp⟩
  ·have:(pks L).toArray++(pks N).toArray++Builtin.zeroCells (pkV pk0 hs0).cells (grownCap w a old PkT- a)=(pks (L++N++List.replicate (grownCap w a old PkT- a) (pk0,hs0))).toArray:=by
    apply oz.1;rw[K,Array.toList_append,Array.toList_append,BM,pE,pE]
   rw[this];exact Bk.fresh w.drew _ _
  ·rw[List.length_append,b,List.length_replicate];omega
  ·rw[eW (by rw[b];omega),bt (by rw[b];omega)]
 rcases hr.lies with ⟨rfl,rfl,rfl⟩ | ⟨g,M,rfl,O,s,t,W,Q,E⟩
 ·have R:L=[]:=aF hr.len;subst R;have f:=run_append_nil (P:=prog) w 33 ty PkT i (pkV pk0 hs0) D z J X m cx (pks N) h l hm (by omega) (by rw[y];omega);obtain⟨p,q,r⟩:=grown m 0 (by omega) hm;rw[show(pks []).toArray= #[]from rfl]at p q r;simp only[Array.empty_append]at p q r;rw[bV];exact⟨_,_,_,f,p,q _,.inr rfl,r⟩
 ·by_cases o:n+m<=c
  ·have f:=run_append_room (P:=prog) w 33 ty PkT i D z g n c (pks M).toArray s X m cx (pks N) h l (Ee N) o (by rw[d,gJ,hN,WO,gJ,t];omega);refine⟨g,c,_,f,⟨b,.inr ⟨g,M.take n++N++M.drop (n+m),rfl,O,?_,?_,o,Q,?_⟩⟩,⟨rfl,rfl,rfl,by simp,λk _ C=>setRow_other w g k _ (λe=>C (by simp[Value.ownBlock,e]))⟩,.inl rfl,?_⟩
   ·have:=setRow_heap w g (pks M).toArray ((pks M).take (n*i.size)++pks N++(pks M).drop (n*i.size+(pks N).length)).toArray PkT (0,0) s;unfold Bk;rw[pE,pE,<-ln,<-uR];rw[h,d,<-iK]at this⊢;exact this
   ·rw[List.length_append,List.length_append,cY,bU,hN,t];omega
   ·rw[eW (by rw[List.length_append,cY,hN,t];omega),bt (by rw[List.length_append,cY,hN,t];omega),E]
   ·simpa using s.lt
  ·have H:(pks L).length=n*i.size:=by rw[gJ,hr.len,d]
   have U:=hr.rd;have I:∀j u,(pks L)[j]? =some u->w.cell? ((⟨g,0,none⟩:Addr).add j)=some u:=by
    intro j u x;rw[Addr.add_lit,bV,s.cell,ay];rw[<-E,<-ln,List.getElem?_take]at x;split at x
    ·exact x
    ·cases x
   have f:=run_append_grow (P:=prog) w 33 ty PkT i (pkV pk0 hs0) D z J ⟨g,0,none⟩ n c (pks L) H I X m cx (pks N) h l (by omega) (by omega) (growslice_fits (by omega) (by rw[y];omega));obtain⟨p,q,r⟩:=grown (n+m) c rfl (by omega);exact⟨_,_,_,f,p,q _,.inr rfl,r⟩
theorem DB{w:abP}{o:Oper}{a:Act}{K:Act->abP->Prop}{Q:Exit->Act->abP->Prop}(s x:Operand)
  (ho:o.op= .call {callee:=.builtin .append,args:=#[s,x],argTypes:=#[33,33]})
  {w0:abP}{A:Option Addr}{n c:Nat}{L:List (Pk×Hs)}(hs:a.eval s= .slice A n c)(hr:RowK w0 w A n c L)(h0:w0.heap.size<=w.heap.size)(X:Addr)(N:List (Pk×Hs))(m cx B:Nat)(hx:a.eval x= .slice (some X) m cx)(hN:N.length=m)(hm:0<m)(hsr:Rd w B 25 (some X) m (pks N))(hb:n+m<=100000000000)
  (h:∀g c' w',RowK w0 w' (some ⟨g,0,none⟩) (n+m) c' (L++N)->w.grownBy w' (Value.slice A n c).ownBlock->((Value.slice A n c).ownBlock=some g\/g=w.heap.size)->g<w'.heap.size->K (a.put o.dst (.slice (some ⟨g,0,none⟩) (n+m) c')) w'):o.wp prog a w K Q:=by
 obtain⟨g,c',w',b,d,e,f,i⟩:=Bo hr h0 o.type X N m cx B hN hm hsr hb;unfold Oper.wp execOp;simp only[ho,resolve,invoke,builtin,Sem.run_bind,Sem.run_pure,ik,kD,fI,gC,hs,hx,b];exact h g c' w' d e f i
theorem oE{w:abP}{ops:Array Oper}{rest:List Oper}{o:Oper}{a:Act}{Q:Exit->Act->abP->Prop}(hgd:o.guard=none)(s x:Operand)
  (ho:o.op= .call {callee:=.builtin .append,args:=#[s,x],argTypes:=#[33,33]})
  {w0:abP}{A:Option Addr}{n c:Nat}{L:List (Pk×Hs)}(hs:a.eval s= .slice A n c)(hr:RowK w0 w A n c L)(h0:w0.heap.size<=w.heap.size)(X:Addr)(N:List (Pk×Hs))(m cx B:Nat)(hx:a.eval x= .slice (some X) m cx)(hN:N.length=m)(hm:0<m)(hsr:Rd w B 25 (some X) m (pks N))(hb:n+m<=100000000000)
  (h:∀g c' w',RowK w0 w' (some ⟨g,0,none⟩) (n+m) c' (L++N)->w.grownBy w' (Value.slice A n c).ownBlock->((Value.slice A n c).ownBlock=some g\/g=w.heap.size)->g<w'.heap.size->wpList prog ops Q rest (a.put o.dst (.slice (some ⟨g,0,none⟩) (n+m) c')) w'):wpList prog ops Q (o :: rest) a w:=
 Y6 hgd λ_ i=>DB s x ho hs hr h0 X N m cx B hx hN hm hsr hb λg c' w' b d e f=>i _ _ (h g c' w' b d e f)
def Gn(v:Array (Nat×Value)):Sem Value:=Instr.buildSlice 33 1 v
theorem xS(v:Array (Nat×Value)):Instr.buildSlice 33 1 v=Gn v:=rfl
theorem um(p:Pk)(h:Hs)(w:abP):(Gn #[(0,pkV p h)]).run prog w= .ok (.slice (some ⟨w.heap.size,0,none⟩) 1 1) (w.alloc (.cells (pkC p h) PkT)):=by kernel_rfl
theorem Fs(W:abP)(p:Pk)(h:Hs)(hg:W.heap.size=g):Rd (W.alloc (.cells (pkC p h) PkT)) (g+1) 25 (some ⟨g,0,none⟩) 1 (pks [(p,h)]):=by
 subst hg;refine⟨by rw[gJ];rfl,.inr ⟨_,0,rfl,ed _,λj u a=>?_⟩⟩;rw[bV,(Bk.fresh W PkT (pkC p h)).cell];have e:pks [(p,h)]=(pkC p h).toList:=by rw[m6,Ef,YO]
 rw[e]at a
 simpa using a
structure RdK (w:abP) (A:Option Addr) (n:Nat) (L:List (Pk×Hs)):Prop where
 rd:Rd w w.heap.size 25 A n (pks L)
 ins:∀x∈L,PkIn w w.heap.size x.1 x.2
theorem RdK.below(h:RdK w A n L)(hb:abQ w y):RdK y A n L:=⟨(h.rd.below hb).wider hb.size,λx a=>(h.ins x a).next hb⟩
theorem RdK.len(h:RdK w A n L):L.length=n:=by
 have a:=h.rd.1;rw[gJ]at a;omega
theorem RdK.at(h:RdK w A n L)(hi:i<n):∃b o p k,A=some ⟨b,o,none⟩/\L[i]? =some (p,k)/\b<w.heap.size/\
  (∀y,abQ w y->(kZ (.pointer (some ⟨b,o+i*25,none⟩))).run prog y= .ok (pkV p k) y)/\PkIn w w.heap.size p k:=by
 have m:=h.len;have a:i<L.length:=by omega
 rcases h.rd.2 with e| ⟨b,o,rfl,d,f⟩
 ·have:=gJ L;rw[e]at this;simp at this;omega
 ·refine⟨b,o,L[i].1,L[i].2,rfl,List.getElem?_eq_getElem a,d,λy l=>?_,h.ins _ (iY a)⟩;unfold kZ;refine run_loadAt_mid y b (o+i*25) PkT (pkC L[i].1 L[i].2).toList _ ?_ underlying30 rfl (by rw[fT,bo];exact tk);intro j u c;have g:j<25:=by
   rcases fj j 25 with h| h
   ·exact h
   ·rw[aG (by rw[kM];exact h)]at c;cases c
  rw[Nat.add_assoc,l.cell (p:=⟨b,o+(i*25+j),none⟩) d];refine f (i*25+j) u ?_;rw[mG L i j a g]
  simpa using c
structure RowI (w0 w:abP) (A:Option Addr) (n c:Nat) (L:List (Pk×Hs)):Prop where
 row:RowK w0 w A n c L
 ins:∀x∈L,PkIn w w.heap.size x.1 x.2
 apart:∀x∈L,∀g o,A=some ⟨g,o,none⟩->gG g x
section
variable {w0 w y:abP} {A:Option Addr} {n c:Nat} {L:List (Pk×Hs)}
theorem RowI.start(w0 w:abP):RowI w0 w none 0 0 []:=⟨RowK.start _ _,by simp,by simp⟩
theorem RowI.below(h:RowI w0 w A n c L)(hb:abQ w y):RowI w0 y A n c L:=⟨h.row.below hb,λx a=>(h.ins x a).next hb,h.apart⟩
theorem RowI.read(h:RowI w0 w A n c L):RdK w A n L:=⟨h.row.rd,h.ins⟩
theorem RowI.more(h:RowI w0 w A n c L){c' m:Nat}{N:List (Pk×Hs)}(hr:RowK w0 y (some ⟨g,0,none⟩) (n+m) c' (L++N))(hm:w.grownBy y (Value.slice A n c).ownBlock)(hg:(Value.slice A n c).ownBlock=some g\/g=w.heap.size)
  (hi:∀x∈N,PkIn w w.heap.size x.1 x.2)(ha:∀x∈N,∀g o,A=some ⟨g,o,none⟩->gG g x):RowI w0 y (some ⟨g,0,none⟩) (n+m) c' (L++N):=by
 have i:∀x∈L++N,PkIn w w.heap.size x.1 x.2:=λx d=>(cj.1 d).elim (h.ins x) (hi x);have f:∀x∈L++N,∀g o,A=some ⟨g,o,none⟩->gG g x:=λx d=>(cj.1 d).elim (h.apart x) (ha x);refine⟨hr,λx d=>h.row.keep hm (i x d) (f x d),λx d k o e=>?_⟩;cases e;rcases hg with hg| hg
 ·cases A with
  | none=>cases hg
  | some a=>
    obtain⟨b,o,s⟩:=a;rcases h.row.lies with ⟨j,-⟩ | ⟨k,M,j,-⟩
    ·cases j
    ·cases j;simp only[Value.ownBlock,aX]at hg;subst hg;exact f x d _ 0 rfl
 ·exact(i x d).apart (by omega)
end
end
section
abbrev U8:TypeId:=5
theorem lM(l:List UInt8)(n:Nat):(bys l).take n=bys (l.take n):=by simp[bys,List.map_take]
theorem qN(l:List UInt8)(n:Nat):(bys l).drop n=bys (l.drop n):=by simp[bys,List.map_drop]
theorem qM(l:List UInt8){u:Value}(h:(bys l).toArray[i]? =some u):∃b:UInt8,u= .int .u8 (b.toNat:Int):=by
 rw[ay]at h;unfold bys at h;rw[Zr]at h;obtain⟨b,-,a⟩:=Option.map_eq_some_iff.1 h;exact⟨b,a.symm⟩
theorem PkIn.bytes{x:abP}{M:List UInt8}(hi:PkIn x x.heap.size p h)(hbk:Bk x g U8 (bys M).toArray)(hm:x.grownBy y (some g)):PkIn y y.heap.size p h:=by
 have f:∀(i:Nat) (n:Int),(bys M).toArray[i]? ≠some (Value.int IntKind.u32 n):=λi n e=>by
  obtain⟨b,m⟩:=qM M e;cases m
 refine⟨(hi.wp.other hbk f hm (ac _)).wider hm.size,?_,(hi.filters.otherN hbk ?_ hm (ac _)).wider hm.size,(hi.props.other hbk f hm (ac _)).wider hm.size,hi.caps⟩
 ·refine(hi.codes.grown hm (ac _) ?_).wider hm.size;rintro b o r q rfl;rcases hi.codes.2 with k| ⟨u,A,e,-,s⟩
  ·exact q k
  ·rw[r]at e;cases e;cases j:p.codes with
   | nil=>rw[j]at q;exact q rfl
   | cons z l=>
     have:=s 0 (.int .i64 z) (by rw[j];rfl);rw[hbk.cell]at this;obtain⟨b,m⟩:=qM M this;cases m
 ·intro o a b c d k v w;obtain⟨z,t⟩:=qM M k;cases t
structure Kp (w0 w:abP) (K:Option Addr) (n c:Nat) (t:List UInt8):Prop where
 len:t.length=n
 cap:n<=c
 lies:(K=none/\n=0/\c=0)\/∃g o M,K=some ⟨g,o,none⟩/\w0.heap.size<=g/\Bk w g U8 (bys M).toArray/\(M.drop o).take n=t/\o+n<=M.length/\(c=n\/(o=0/\M.length=c/\c<=maxLen))
section
variable {w0 w y:abP} {K:Option Addr} {n c:Nat} {t:List UInt8}
theorem Kp.none(w0 w:abP):Kp w0 w none 0 0 []:=⟨rfl,ac _,.inl ⟨rfl,rfl,rfl⟩⟩
theorem Kp.below(h:Kp w0 w K n c t)(hb:abQ w y):Kp w0 y K n c t:=by
 refine⟨h.len,h.cap,?_⟩;rcases h.lies with a| ⟨g,o,M,a,d,b,e⟩
 ·exact .inl a
 ·exact .inr ⟨g,o,M,a,d,b.below hb b.lt,e⟩
theorem Kp.rd(h:Kp w0 w K n c t):Rd w w.heap.size 1 K n (bys t):=by
 refine⟨by rw[nu,h.len,Y8],?_⟩;rcases h.lies with ⟨-,b,-⟩ | ⟨g,o,M,b,f,d,e,i,k⟩
 ·refine .inl ?_;have:=h.len;rw[aF (by omega:t.length=0)];rfl
 ·refine .inr ⟨g,o,b,d.lt,λj u a=>?_⟩;rw[d.cell,ay];rw[<-e,<-lM,<-qN,List.getElem?_take]at a;split at a
  ·rw[List.getElem?_drop]at a;exact a
  ·cases a
theorem Kp.own(h:Kp w0 w K n c t)(e:(Value.slice K n c).ownBlock=some g):w0.heap.size<=g/\g<w.heap.size:=by
 cases K with
 | none=>cases e
 | some a=>
   obtain⟨b,o,s⟩:=a;rcases h.lies with ⟨d,-⟩ | ⟨j,k,M,d,f,i,-⟩
   ·cases d
   ·cases d;simp only[Value.ownBlock,aX]at e;subst e;exact⟨f,i.lt⟩
theorem Kp.keep(h:Kp w0 w K n c t)(hm:w.grownBy y (Value.slice K n c).ownBlock){k:Hs}(hi:PkIn w w.heap.size p k):PkIn y y.heap.size p k:=by
 rcases h.lies with ⟨rfl,-⟩ | ⟨g,o,M,rfl,-,a,-⟩
 ·exact hi.next ⟨hm.os,hm.tape,hm.output,hm.size,λi hi=>hm.block i hi (by simp[Value.ownBlock])⟩
 ·exact hi.bytes a hm
theorem Kp.bk(h:Kp w0 w K n c t)(hm:w.grownBy y (Value.slice K n c).ownBlock){ty:TypeId}{cs:Array Value}(hb:Bk w g ty cs)(hne:ty≠U8):Bk y g ty cs:=by
 refine(hm.block g hb.lt λe=>?_).trans hb;rcases h.lies with ⟨rfl,-⟩ | ⟨b,o,M,rfl,-,a,-⟩
 ·cases e
 ·simp only[Value.ownBlock,aX]at e;subst e;unfold Bk at hb a;rw[hb]at a;simp only[aX,fc]at a;exact hne a.2.1
theorem Kp.drop(h:Kp w0 w K n c t){k:Nat}(hk:k<=n):Kp w0 w (xt K n k 1) (n- k) (n- k) (t.drop k):=by
 refine⟨by rw[bU,h.len],ac _,?_⟩;rcases h.lies with ⟨rfl,rfl,rfl⟩ | ⟨g,o,M,rfl,a,b,d,f,i⟩
 ·obtain rfl:k=0:=by omega
  exact .inl ⟨rfl,rfl,rfl⟩
 ·unfold xt;split
  ·rename_i e;subst e;refine .inr ⟨g,o,M,rfl,a,b,?_,by omega,.inl rfl⟩;rw[Nat.sub_self,GZ,gD (by rw[h.len];exact ac _)]
  ·refine .inr ⟨g,o+k,M,by simp[Addr.add],a,b,?_,by omega,.inl rfl⟩;rw[<-d,List.drop_take,ab2]
end
section
variable {P:Program} {t e:TypeId} {s:Nat} (ht:P.underlying t=some (.slice e)) (hz:∀w,(sizeOf e).run P w= .ok s w)
include ht hz
end
end
def smZ(v:Int)(t:abO):Nat×Int:=
 if(hdR v (t.extract 0 (min t.size 5))).2.2≠0 then(0,(hdR v (t.extract 0 (min t.size 5))).2.2)
 else((hdR v (t.extract 0 (min t.size 5))).2.1+(hdR v (t.extract 0 (min t.size 5))).1.n,0)
def smN(v most:Int)(t:abO):Pk×Nat×Int:=
 if(smZ v t).2≠0 then(pk0,0,(smZ v t).2)
 else if most<((smZ v t).1:Nat)then(pk0,0,4)
 else if t.size<(smZ v t).1 then(pk0,0,3)
 else mqR v (t.extract 0 (smZ v t).1)
def smF(v most:Int):Nat->abO->Nat->Nat->List Pk->List Pk×abO×Nat×Nat×Int
 | 0,t,a,k,l=>(l,t,a,k,0)
 | f+1,t,a,k,l=>
   if(smN v most t).2.2=0 then smF v most f (t.extract (smN v most t).2.1 t.size) (a+(smN v most t).2.1) (k+1) (l++[(smN v most t).1])
   else if(smN v most t).2.2=3 then(l,t,a,k,0)
   else(l,⟨#[]⟩,a,k,(smN v most t).2.2)
theorem mU(v most:Int)(f:Nat)(t:abO)(a k:Nat)(l:List Pk):smF v most (f+1) t a k l=
  if(smN v most t).2.2=0 then smF v most f (t.extract (smN v most t).2.1 t.size) (a+(smN v most t).2.1) (k+1) (l++[(smN v most t).1])
  else if(smN v most t).2.2=3 then(l,t,a,k,0)
  else(l,⟨#[]⟩,a,k,(smN v most t).2.2):=rfl
theorem jD{most:Int}(h:(smN v most t).2.2=0):2<=(smN v most t).2.1/\(smN v most t).2.1<=t.size:=by
 unfold smN at h⊢;split
 ·rename_i c;rw[if_pos c]at h;exact absurd h c
 rename_i c;rw[Fl c]at h
 split
 ·rename_i d;rw[if_pos d]at h;cases h
 rename_i d;rw[Fl d]at h
 split
 ·rename_i e;rw[if_pos e]at h;cases h
 rename_i e;rw[Fl e]at h
 obtain⟨a,b⟩:=Ch h;rw[aj]at b;omega
theorem Fn{most:Int}(ht:t.size<=1000000000000):PkOk (smN v most t).1:=by
 have a:PkOk pk0:=PkOk.zero 0 0 0;unfold smN;split
 ·exact a
 split
 ·exact a
 split
 ·exact a
 ·exact abe (by rw[aj];omega)
section
def wF(k:Int):FuncId:=if k<=2 then 64 else if k=3 then 72 else if k<=7 then 66 else if k<=11 then 68 else 70
def rF(k:Int):FuncId:=if k<=2 then 65 else if k=3 then 73 else if k<=7 then 67 else if k<=11 then 69 else 71
def ns:List (Int×Value):=[(1,.agg #[.func (.func 64) #[] #[],.func (.func 65) #[] #[]]),(2,.agg #[.func (.func 64) #[] #[],.func (.func 65) #[] #[]]),(3,.agg #[.func (.func 72) #[] #[],.func (.func 73) #[] #[]]),(4,.agg #[.func (.func 66) #[] #[],.func (.func 67) #[] #[]]),(5,.agg #[.func (.func 66) #[] #[],.func (.func 67) #[] #[]]),(6,.agg #[.func (.func 66) #[] #[],.func (.func 67) #[] #[]]),(7,.agg #[.func (.func 66) #[] #[],.func (.func 67) #[] #[]]),(8,.agg #[.func (.func 68) #[] #[],.func (.func 69) #[] #[]]),(9,.agg #[.func (.func 68) #[] #[],.func (.func 69) #[] #[]]),(10,.agg #[.func (.func 68) #[] #[],.func (.func 69) #[] #[]]),(11,.agg #[.func (.func 68) #[] #[],.func (.func 69) #[] #[]]),(12,.agg #[.func (.func 70) #[] #[],.func (.func 71) #[] #[]]),(13,.agg #[.func (.func 70) #[] #[],.func (.func 71) #[] #[]]),(14,.agg #[.func (.func 70) #[] #[],.func (.func 71) #[] #[]]),(15,.agg #[.func (.func 70) #[] #[],.func (.func 71) #[] #[]])]
def Dr(k:Int):Bool:=decide (1<=k/\k<=15)
theorem EI(h:1<=k/\k<=15):k=1\/k=2\/k=3\/k=4\/k=5\/k=6\/k=7\/k=8\/k=9\/k=10\/k=11\/k=12\/k=13\/k=14\/k=15:=by omega
theorem Et(k:Int):∃a b,(ia ns k).getD (.agg #[.nilFunc,.nilFunc])= .agg #[a,b]/\(ia ns k).isSome=Dr k/\(Dr k=true->a=FC (wF k)/\b=FC (rF k))/\a.oneCell'=true/\b.oneCell'=true:=by
 by_cases h:1<=k/\k<=15
 ·have c:Dr k=true:=au h;rcases EI h with rfl| rfl| rfl| rfl| rfl| rfl| rfl| rfl| rfl| rfl| rfl| rfl| rfl| rfl| rfl
  all_goals exact⟨_,_,rfl,c.symm▸rfl,λ_=>⟨rfl,rfl⟩,rfl,rfl⟩
 ·have c:Dr k=false:=ah h;have g:ia ns k=none:=by
   unfold ia;rw[List.find?_eq_none.2]
   ·rfl
   ·intro q d;simp only[ns,ie,List.not_mem_nil,or_false]at d;intro e;have f:=eq_of_beq e;rcases d with rfl| rfl| rfl| rfl| rfl| rfl| rfl| rfl| rfl| rfl| rfl| rfl| rfl| rfl| rfl
    all_goals (simp only at f;omega)
  rw[g];exact⟨_,_,rfl,c.symm▸rfl,λx=>by(rw[c]at x;cases x),rfl,rfl⟩
theorem VH(args:Array Value)(w:abP):(callFunc (wF k) args).run prog w= .ok (.enter (wF k) args) w:=by
 unfold wF
 repeat' split
 ·exact dv func64 (by kernel_rfl) rfl args w
 ·exact dv func72 (by kernel_rfl) rfl args w
 ·exact dv func66 (by kernel_rfl) rfl args w
 ·exact dv func68 (by kernel_rfl) rfl args w
 ·exact dv func70 (by kernel_rfl) rfl args w
theorem CW(args:Array Value)(w:abP):(callFunc (rF k) args).run prog w= .ok (.enter (rF k) args) w:=by
 unfold rF
 repeat' split
 ·exact dv func65 (by kernel_rfl) rfl args w
 ·exact dv func73 (by kernel_rfl) rfl args w
 ·exact dv func67 (by kernel_rfl) rfl args w
 ·exact dv func69 (by kernel_rfl) rfl args w
 ·exact dv func71 (by kernel_rfl) rfl args w
def DL(a v:Value):Sem Unit:=Instr.storeAt ChT a v
theorem xQ(a v:Value):Instr.storeAt ChT a v=DL a v:=rfl
theorem EA:(prog.info? ChT).map (·.size)=some 2:=by kernel_rfl
theorem Bj{x y:Value}(hb:Bk w g ChT #[x,y])(ha:a.oneCell'=true)(hb':b.oneCell'=true):(DL (.pointer (some ⟨g,0,none⟩)) (.agg #[a,b])).run prog w= .ok () (w.setCells g 0 [a,b]):=by
 unfold DL;refine run_storeAt_mid w g 0 ChT #[a,b] ?_ EA (by simp[ha,hb']);intro j c;rw[bV,hb.cell,hb.free];refine⟨?_,rfl⟩;rw[eL (show j< #[x,y].size from c)];rfl
theorem j7(w:abP)(hn:w.heap.size=n)(x y:Value)(ha:a.oneCell'=true)(hb:b.oneCell'=true):(DL (.pointer (some ⟨n,0,none⟩)) (.agg #[a,b])).run prog (w.alloc (.cells #[x,y] ChT))= .ok () (w.alloc (.cells #[a,b] ChT)):=by
 subst hn;rw[Bj (Bk.fresh w ChT #[x,y]) ha hb,io];rfl
attribute [local go_sem ↓] xQ
structure ChK (W:abP) (g:Nat):Prop where
 b0:Bk W (g+0) ChT #[.func (.func 64) #[] #[],.func (.func 65) #[] #[]]
 b1:Bk W (g+1) ChT #[.func (.func 66) #[] #[],.func (.func 67) #[] #[]]
 b2:Bk W (g+2) ChT #[.func (.func 68) #[] #[],.func (.func 69) #[] #[]]
 b3:Bk W (g+3) ChT #[.func (.func 70) #[] #[],.func (.func 71) #[] #[]]
theorem ChK.next{W w1:abP}(h:ChK W g)(hg:W.grownBy w1 (some (g+4))):ChK w1 g:=
 ⟨h.b0.mods (S:=λz=>z=g+4) (qb hg rfl) (by omega),h.b1.mods (S:=λz=>z=g+4) (qb hg rfl) (by omega),h.b2.mods (S:=λz=>z=g+4) (qb hg rfl) (by omega),h.b3.mods (S:=λz=>z=g+4) (qb hg rfl) (by omega)⟩
theorem ChK.cells{W:abP}(h:ChK W g):W.cell? ⟨g,0,none⟩=some (.func (.func 64) #[] #[])/\W.cell? ⟨g,1,none⟩=some (.func (.func 65) #[] #[])/\W.cell? ⟨g+1,0,none⟩=some (.func (.func 66) #[] #[])/\W.cell? ⟨g+1,1,none⟩=some (.func (.func 67) #[] #[])/\W.cell? ⟨g+2,0,none⟩=some (.func (.func 68) #[] #[])/\W.cell? ⟨g+2,1,none⟩=some (.func (.func 69) #[] #[])/\W.cell? ⟨g+3,0,none⟩=some (.func (.func 70) #[] #[])/\W.cell? ⟨g+3,1,none⟩=some (.func (.func 71) #[] #[]):=
 ⟨h.b0.cell 0,h.b0.cell 1,h.b1.cell 0,h.b1.cell 1,h.b2.cell 0,h.b2.cell 1,h.b3.cell 0,h.b3.cell 1⟩
theorem tC(w:abP):Calls prog 46 #[] w λe w'=>∃r,e= .returned (.map (some r))/\fQ .i64 w' r ns/\abQ w w':=by
 have C:=@run_makeMap prog;obtain⟨d,f⟩:∃d,((((w.alloc (.cells #[.func (.func 64) #[] #[],.func (.func 65) #[] #[]] ChT)).alloc (.cells #[.func (.func 66) #[] #[],.func (.func 67) #[] #[]] ChT)).alloc (.cells #[.func (.func 68) #[] #[],.func (.func 69) #[] #[]] ChT)).alloc (.cells #[.func (.func 70) #[] #[],.func (.func 71) #[] #[]] ChT))=d:=⟨_,rfl⟩;have j:d.heap.size=w.heap.size+4:=by rw[<-f];simp
 have g:Hid (abQ w (d.alloc (.map #[] 0))):=aa (by
  rw[<-f];exact(((((aq w.heap.size w).alloc (ac _) _).alloc (by simp) _).alloc (by simp;omega) _).alloc (by simp;omega) _).alloc (by simp;omega) _)
 have h:Hid (fQ .i64 (d.alloc (.map #[] 0)) (w.heap.size+4) []):=aa (by rw[<-j];exact yq d .i64);have c:Hid (ChK (d.alloc (.map #[] 0)) w.heap.size):=aa (by
  rw[<-f];have z:(w.alloc (.cells #[.func (.func 64) #[] #[],.func (.func 65) #[] #[]] ChT)).heap.size=w.heap.size+1:=by simp
  have A:((w.alloc (.cells #[.func (.func 64) #[] #[],.func (.func 65) #[] #[]] ChT)).alloc (.cells #[.func (.func 66) #[] #[],.func (.func 67) #[] #[]] ChT)).heap.size=w.heap.size+2:=by simp
  have B:(((w.alloc (.cells #[.func (.func 64) #[] #[],.func (.func 65) #[] #[]] ChT)).alloc (.cells #[.func (.func 66) #[] #[],.func (.func 67) #[] #[]] ChT)).alloc (.cells #[.func (.func 68) #[] #[],.func (.func 69) #[] #[]] ChT)).heap.size=w.heap.size+3:=by simp
  refine⟨((((Bk.fresh w ChT _).alloc _).alloc _).alloc _).alloc _,?_,?_,?_⟩
  ·rw[<-z];exact(((Bk.fresh _ ChT _).alloc _).alloc _).alloc _
  ·rw[<-A];exact((Bk.fresh _ ChT _).alloc _).alloc _
  ·rw[<-B];exact(Bk.fresh _ ChT _).alloc _)
 obtain⟨l,m,o,p,q,s,t,u⟩:=c.o.cells;rw[<-f]at l m o p q s t u g h c;clear f j;clear d;have D:=j7 w (n:=w.heap.size) (by simp) .nilFunc .nilFunc (a:=.func (.func 64) #[] #[]) (b:=.func (.func 65) #[] #[]) rfl rfl;have E:=j7 (w.alloc (.cells #[.func (.func 64) #[] #[],.func (.func 65) #[] #[]] ChT)) (n:=w.heap.size+1) (by simp) .nilFunc .nilFunc (a:=.func (.func 66) #[] #[]) (b:=.func (.func 67) #[] #[]) rfl rfl;have F:=j7 ((w.alloc (.cells #[.func (.func 64) #[] #[],.func (.func 65) #[] #[]] ChT)).alloc (.cells #[.func (.func 66) #[] #[],.func (.func 67) #[] #[]] ChT)) (n:=w.heap.size+2) (by simp) .nilFunc .nilFunc (a:=.func (.func 68) #[] #[]) (b:=.func (.func 69) #[] #[]) rfl rfl;have G:=j7 (((w.alloc (.cells #[.func (.func 64) #[] #[],.func (.func 65) #[] #[]] ChT)).alloc (.cells #[.func (.func 66) #[] #[],.func (.func 67) #[] #[]] ChT)).alloc (.cells #[.func (.func 68) #[] #[],.func (.func 69) #[] #[]] ChT)) (n:=w.heap.size+3) (by simp) .nilFunc .nilFunc (a:=.func (.func 70) #[] #[]) (b:=.func (.func 71) #[] #[]) rfl rfl;go_enter func46,ntmps46;go_wp2_with (refine lc _ rfl _ _ _ 85 rfl 3 ChT (by kernel_rfl) (by kernel_rfl) (w.heap.size+4) _ rfl h.o _ _ rfl rfl rfl ?_;intro H x v;have y:=g.o.grown v (g.o.size) (λk i=>by cases i;exact iX _ _);have i:=c.o.next v;clear h g v c l m o p q s t u;have h:=aa x;have g:=aa y;have c:=aa i;obtain⟨l,m,o,p,q,s,t,u⟩:=i.cells;clear x y i);go_ret;exact⟨_,rfl,h.o,g.o⟩
end
section
attribute [local go_sem ↓] xT xR xQ
attribute [local go_sem] un ul
theorem We(v:Int)(p:Pk)(h:Hs)(w:abP)(ip:PkIn w w.heap.size p h)(ok:PkOk p)(hz:MV v p):
  Calls prog (wF p.kind) #[dfV v p h] w λe w'=>e= .returned (.tuple #[.string (chB v p).1,.int .i64 (chB v p).2])/\abQ w w':=by
 unfold wF chB;split
 ·exact UV v p h w ip ok
 split
 ·exact UT v p h w ip ok
 split
 ·exact VA v p h w ip ok
 split
 ·exact UK v p h w ip ok (hz ⟨by omega,by omega⟩)
 ·exact UU v p h w ip ok
theorem Fj(v:Int)(x:Hdr)(s:abO)(w:abP)(hs:s.size<=1000000000000):Calls prog (rF x.k) #[wrV v x s] w (lQ (chR v x s) w):=by
 unfold rF chR;split
 ·exact rb v x s w hs
 split
 ·exact qY v x s w hs
 split
 ·exact yV v x s w hs
 split
 ·exact oX v x s w hs
 ·exact qZ v x s w hs
theorem El{r:Nat}(h:fQ .i64 w r ns)(k:Int){is:Bool}(h1:(ia ns k).getD (.agg #[.nilFunc,.nilFunc])= .agg #[a,b])(h2:(ia ns k).isSome=is):
  (Instr.lookup 85 (.map (some r)) (.int .i64 k) true).run prog w= .ok (.tuple #[.agg #[a,b],.bool is]) w/\(Instr.lookup 85 (.map (some r)) (.int .i64 k) false).run prog w= .ok (.agg #[a,b]) w:=by
 have c:=nY (P:=prog) (t:=85) (k:=3) (e:=ChT) (z:=.agg #[.nilFunc,.nilFunc]) (by kernel_rfl) (by kernel_rfl) (by kernel_rfl) h k;rw[h1,h2]at c;exact⟨c.2,c.1⟩
def Ve(v:Int)(p:Pk):abO:=if mqE v p=0 then(chB v p).1 else⟨#[]⟩
theorem UP(v:Int)(p:Pk)(h:Hs)(w:abP)(ip:PkIn w w.heap.size p h)(ok:PkOk p)(hz:MV v p):
  abR 50 #[.int .i64 v,pkV p h] w (.tuple #[.string (Ve v p),.int .i64 (mqE v p)]):=by
 have HE:Hid (mqE v p=if YG v=false then 2 else if dS v p.kind=false then 8 else if chE v p≠0 then chE v p else if 268435455<(chB v p).1.size then 4 else 0):=aa rfl;have l:Hid (Ve v p=if mqE v p=0 then(chB v p).1 else⟨#[]⟩):=aa rfl;have aF:=aa ok;have HZ:=aa hz;have Q:=(aq w.heap.size w).alloc (ac _) (.cells (pkC p h) PkT);have H:=aa Q;have N:=aa (ip.next Q);have s:=aa (Bk.fresh w PkT (pkC p h));clear ip ok hz Q;obtain⟨c,A⟩:∃c,w.alloc (.cells (pkC p h) PkT)=c:=⟨_,rfl⟩;have Y:Hid (w.heap.size<c.heap.size):=aa (by rw[<-A];simp);rw[A]at H N s;have aM:(F9 (pkV p h)).run prog w= .ok (.pointer (some ⟨w.heap.size,0,none⟩)) c:=by rw[<-A];exact bc p h w
 clear A;go_enter func50,ntmps50;go_upto_region 1 with fail
 go_cut [15] (λa G=>c=G/\a= .bool (!YG v))
 case first=>
  by_cases D:v=4
  ·have d:Hid (YG v=true):=aa (au (.inl D));have e4:(v !=4)=false:=by simp[D]
   clear D;go_wp2;go_meet
   case rel=>exact⟨rfl,by rw[d.o];rfl⟩
  ·have e4:(v !=4)=true:=aA.2 D;by_cases P:v=5
   ·have d:Hid (YG v=true):=aa (au (.inr P));have e5:(v !=5)=false:=by simp[P]
    clear D P;go_wp2;go_meet
    case rel=>exact⟨rfl,by rw[d.o];rfl⟩
   ·have d:Hid (YG v=false):=aa (ah (by omega));have e5:(v !=5)=true:=aA.2 P;clear D P;go_wp2;go_meet
    case rel=>exact⟨rfl,by rw[d.o];rfl⟩
 obtain⟨rfl,rfl⟩:=hcut;cases S:YG v
 ·have d:Hid (mqE v p=2):=aa (by rw[HE.o,if_pos S]);have m:Hid (Ve v p=⟨#[]⟩):=aa (by rw[l.o,d.o];rfl);clear S;go_wp2;go_ret2;exact⟨by rw[d.o,m.o];rfl,H.o⟩
 have K:Hid (mqE v p=if dS v p.kind=false then 8 else if chE v p≠0 then chE v p else if 268435455<(chB v p).1.size then 4 else 0):=aa (by rw[HE.o,Fl (λx=>by rw[S]at x;cases x)]);have aE:=aa S;obtain⟨B,C,am,an,ao,T,U⟩:=Et p.kind;have O:=aa ao;have z:=aa (fun(W:abP) (r:Nat) (E:fQ .i64 W r ns)=>El E p.kind am an);have ag:=aa (fun(W:abP)=>j7 W (n:=W.heap.size) rfl .nilFunc .nilFunc T U);have af:=aa (fun(W:abP) (g:Nat) (o:Bk W g ChT #[.nilFunc,.nilFunc])=>Bj o T U);have c0:=(s.o.cell 0).trans (cI p h);clear S HE am an ao T U;go_upto_region 3 with fail
 go_cut [6,7] (λa b G=>∃g,a= .pointer (some ⟨g,0,none⟩)/\b= .bool (Dr p.kind)/\Bk G g ChT #[B,C]/\abQ c G)
 case first=>
  have cA:(c.alloc (.cells #[.nilFunc,.nilFunc] ChT)).cell? ⟨w.heap.size,0,none⟩=some (.int .i64 p.kind):=((s.o.alloc _).cell 0).trans (cI p h)
  go_region_law ((first| (go_simp;go_at_call 46;refine(tC c.drew).mono ?_;rintro e f ⟨r,rfl,E,o⟩;have aN:=(z.o f r E).1;have aY:=(z.o _ r (E.alloc (.cells #[.nilFunc,.nilFunc] ChT))).1;have aC:=ag.o f;have y:abQ c f:=(aV (aq c.heap.size c) 1).trans o;have c2:f.cell? ⟨w.heap.size,0,none⟩=some (.int .i64 p.kind):=((s.o.below y Y.o).cell 0).trans (cI p h);have a1:(f.alloc (.cells #[.nilFunc,.nilFunc] ChT)).cell? ⟨w.heap.size,0,none⟩=some (.int .i64 p.kind):=(((s.o.below y Y.o).alloc _).cell 0).trans (cI p h)) | (go_simp;go_at_call 46;refine(tC (c.alloc (.cells #[.nilFunc,.nilFunc] ChT)).drew).mono ?_;rintro e f ⟨r,rfl,E,o⟩;have aN:=(z.o f r E).1;have hA:abQ c (c.alloc (.cells #[.nilFunc,.nilFunc] ChT)).drew:=aV ((aq c.heap.size c).alloc (ac _) (.cells #[.nilFunc,.nilFunc] ChT)) 1;have y:abQ c f:=Yf hA o;have ai:Bk f c.heap.size ChT #[.nilFunc,.nilFunc]:=((Bk.fresh c ChT #[.nilFunc,.nilFunc]).drewN 1).below o (by show c.heap.size<(c.alloc _).heap.size;simp);have hP:Bk (f.setCells c.heap.size 0 [B,C]) c.heap.size ChT #[B,C]:=oH [B,C] 0 ai;have hQ:abQ c (f.setCells c.heap.size 0 [B,C]):=(y.setCell (ac _) _).setCell (ac _) _;have aC:=af.o f c.heap.size ai;have c2:f.cell? ⟨w.heap.size,0,none⟩=some (.int .i64 p.kind):=((s.o.below y Y.o).cell 0).trans (cI p h))))
  all_goals
   go_wp2;go_meet
   case rel=>
    first
     | with_reducible exact⟨_,rfl,rfl,Bk.fresh f ChT #[B,C],y.alloc y.size _⟩
     | with_reducible exact⟨_,rfl,rfl,hP,hQ⟩
 obtain⟨g,rfl,rfl,ak,q⟩:=hcut;obtain⟨G,aO⟩:∃x,x=wc:=⟨_,rfl⟩;subst aO;have I:=aa (Yf H.o q);have ad:=aa (s.o.below q Y.o);have av:=aa (N.o.next q);have ae:=aa ak;clear q ak c0 H s N z ag af aM;have c0:=(ad.o.cell 0).trans (cI p h);have j:Hid (dS v p.kind=(Dr p.kind&& !(decide (p.kind=15)&&decide (v=4)))):=aa (by
  have:=aR (show decide (v=4\/v=5)=true from aE.o);unfold dS Dr;rw[eG];simp only[eh,Bool.not_eq_true',Kz,Fx,Ip];omega)
 obtain⟨V,R⟩:∃V,Dr p.kind=V:=⟨_,rfl⟩;rw[R]at j O⊢;have aD:=aa R;clear R;go_upto_region 4 with fail
 go_cut [33] (λa wy=>G=wy/\a= .bool (!dS v p.kind))
 case first=>
  cases V
  ·have d:Hid (dS v p.kind=false):=aa (by rw[j.o];rfl);go_wp2;go_meet
   case rel=>exact⟨rfl,by rw[d.o];rfl⟩
  by_cases i:p.kind=15;rotate_left
  ·have d:Hid (dS v p.kind=true):=aa (by rw[j.o,ah i];rfl);have aH:(p.kind==15)=false:=ar.2 i;clear i;go_wp2;go_meet
   case rel=>exact⟨rfl,by rw[d.o];rfl⟩
  have aH:(p.kind==15)=true:=aK.2 i;by_cases F:v=4
  ·have d:Hid (dS v p.kind=false):=aa (by rw[j.o,au i,au F];rfl);have e4:(v==4)=true:=aK.2 F;clear i F;go_wp2;go_meet
   case rel=>exact⟨rfl,by rw[d.o];rfl⟩
  ·have d:Hid (dS v p.kind=true):=aa (by rw[j.o,au i,ah F];rfl);have e4:(v==4)=false:=ar.2 F;clear i F;go_wp2;go_meet
   case rel=>exact⟨rfl,by rw[d.o];rfl⟩
 obtain⟨rfl,rfl⟩:=hcut;cases u:dS v p.kind
 ·have d:Hid (mqE v p=8):=aa (by rw[K.o,if_pos u]);have m:Hid (Ve v p=⟨#[]⟩):=aa (by rw[l.o,d.o];rfl);clear u;go_wp2;go_ret2;exact⟨by rw[d.o,m.o];rfl,I.o⟩
 have aj:V=true:=by
  have:=j.o;rw[u]at this;cases V
  ·cases this
  ·rfl
 obtain⟨rfl,rfl⟩:=O.o aj;have L:Hid (mqE v p=if chE v p≠0 then chE v p else if 268435455<(chB v p).1.size then 4 else 0):=aa (by rw[K.o,Fl (λx=>by rw[u]at x;cases x)]);have ab:=aa (λW ip=>We v p h W ip aF.o HZ.o);have d0:=ae.o.cell 0;have l0:=cf ad.o;have en:=λaw W=>VH (k:=p.kind) aw W;simp only[ay,aB,FC]at d0;generalize wF p.kind=WF at*;clear u j K O ae aD;subst aj;go_wp2_with fail;refine Yg (ab.o _ av.o) λw3 o=>?_;have J:=aa (Yf I.o o);clear o ab c0 d0 l0 en;by_cases t:chE v p=0;rotate_left
 ·have d:Hid (mqE v p=chE v p):=aa (by rw[L.o,if_pos t]);have m:Hid (Ve v p=⟨#[]⟩):=aa (by rw[l.o,d.o,Fl t]);rw[Wa t];generalize chE v p=x at*;have e0:(x !=0)=true:=aA.2 t;clear t;go_wp2;go_ret2;exact⟨by rw[d.o,m.o];rfl,J.o⟩
 have h2:=Wf t;have M:Hid (mqE v p=if 268435455<(chB v p).1.size then 4 else 0):=aa (by rw[L.o,Fl (λx=>x t)]);rw[h2];obtain⟨X,hX⟩:∃X,(chB v p).1=X:=⟨_,rfl⟩;rw[hX]at M l⊢;clear h2 t hX L;by_cases Z:268435455<X.size
 ·have d:Hid (mqE v p=4):=aa (by rw[M.o,if_pos Z]);have m:Hid (Ve v p=⟨#[]⟩):=aa (by rw[l.o,d.o];rfl);have d1:(268435455:Int)<(X.size:Int):=by omega
  clear Z;go_wp2;go_ret2;exact⟨by rw[d.o,m.o];rfl,J.o⟩
 ·have d:Hid (mqE v p=0):=aa (by rw[M.o,Fl Z]);have m:Hid (Ve v p=X):=aa (by rw[l.o,d.o];rfl);have d1:(X.size:Int)<=268435455:=by omega
  clear Z;go_wp2;go_ret2;exact⟨by rw[d.o,m.o];rfl,J.o⟩
end
section
theorem UI(v:Int)(p:Pk)(h:Hs)(w:abP)(ip:PkIn w w.heap.size p h)(ok:PkOk p)(hz:MV v p):
  abR 37 #[.int .i64 v,pkV p h] w (.tuple #[.string (mqB v p).1,.int .i64 (mqB v p).2]):=by
 have j:=(aq w.heap.size w).alloc (ac _) (.cells (pkC p h) PkT);have q:=aa j;have r:=aa (Bk.fresh w PkT (pkC p h));have c:=aa (UP v p h _ (ip.next j) ok hz);clear ip ok hz j;go_enter func37,ntmps37;go_wp2_with fail;refine c.o.mono ?_;rintro e L ⟨rfl,a⟩;have g:=aa (Yf q.o a);have i:=aa (r.o.below a r.o.lt);clear a c q r;by_cases d:mqE v p=0;rotate_left
 ·have s:Hid (mqB v p=(⟨#[]⟩,mqE v p)):=aa (Fl d);generalize mqE v p=x at*;have K:(x !=0)=true:=aA.2 d;clear d;go_wp2;go_ret2;exact⟨by rw[s.o];rfl,g.o⟩
 obtain⟨z,A,B,m⟩:=Ol d;obtain⟨C,D⟩:=Ma z A B;have s:Hid (mqB v p=(mqS v p,0)):=aa (if_pos d);have c:Ve v p=(chB v p).1:=if_pos d;have o:Hid (hdB v p.kind (mqF p) (chB v p).1.size=(hdS p.kind (mqF p) (chB v p).1.size,0)):=aa (if_pos D);have k:Hid (mqS v p=⟨(hdS p.kind (mqF p) (chB v p).1.size).toArray⟩++(chB v p).1):=aa rfl;have l:=aa (EC p.kind (mqF p) (chB v p).1.size);have b:=aa (λW=>Vj v p.kind (mqF p) (chB v p).1.size W m);simp only[Cx,o.o]at b;have I:=cf i.o;rw[d,c];have f:=aa (λW=>vp v p h W);rw[C]at f;obtain⟨X,E⟩:∃X,(chB v p).1=X:=⟨_,rfl⟩;rw[E]at b k l m⊢;obtain⟨F,hF⟩:∃F,mqF p=F:=⟨_,rfl⟩;rw[hF]at b k l f;obtain⟨Y,G⟩:∃Y,hdS p.kind F X.size=Y:=⟨_,rfl⟩;rw[G]at b k l;have y:=aa m;clear o z A B C D c E hF G d m;go_wp2_with fail;refine Yg (f.o _) λM a=>?_;have n:=aa (Yf g.o a);have u:=aa (i.o.below a i.o.lt);clear a I f;have H:=(u.o.cell 0).trans (cI p h);go_wp2_with fail;refine Yg (b.o _) λN a=>?_;have t:=aa (Yf n.o a);have J:¬(9223372036854775807<Y.length+X.size):=by have:=l.o;have:=y.o;omega
 clear a b H;go_wp2;go_ret2;exact⟨by rw[s.o,k.o];rfl,t.o⟩
theorem Vq(v:Int)(p:Pk)(h:Hs)(w:abP)(ip:PkIn w w.heap.size p h)(ok:PkOk p)(hz:MV v p):
  abR 25 #[.int .i64 v,pkV p h] w (.tuple #[.int .i64 ((mqB v p).1.size:Nat),.int .i64 (mqB v p).2]):=by
 have a:=(aq w.heap.size w).alloc (ac _) (.cells (pkC p h) PkT);have b:=aa a;have d:=aa (UI v p h _ (ip.next a) ok hz);clear ip ok hz a;go_enter func25,ntmps25;go_wp2_with fail;refine d.o.mono ?_;rintro e g ⟨rfl,f⟩;have c:=aa (Yf b.o f);clear f;go_wp2;go_ret2;exact⟨rfl,c.o⟩
def Gp(v:Array (Nat×Value)):Sem Value:=Instr.build WrT v
theorem DI(v:Array (Nat×Value)):Instr.build WrT v=Gp v:=rfl
theorem aaW(v k f:Int)(n:Nat)(t:abO)(w:abP):(Gp #[(0,.int .i64 v),(1,.agg #[.int .i64 k,.int .i64 f,.int .i64 n]),(2,.string t)]).run prog w= .ok (wrV v ⟨k,f,n⟩ t) w:=by kernel_rfl
theorem DT(a b:FuncId)(w:abP):(Instr.field ChT (.agg #[.func (.func a) #[] #[],.func (.func b) #[] #[]]) 1).run prog w= .ok (.func (.func b) #[] #[]) w:=by kernel_rfl
attribute [local go_sem ↓] DI DT
attribute [local go_sem] aaW
theorem eZ{fn:Func}{p u u':Tmp}(hr:fn.results= #[.cell p PkT,.tmp u,.tmp u'])(tmps:Array Value){q:Pk}(hp:tmps.getD p undef= .pointer (some ⟨g,0,none⟩))(hb:Bk w g PkT (pkC q h)):
  (results fn tmps).run prog w= .ok (.tuple #[pkV q h,tmps.getD u undef,tmps.getD u' undef]) w:=by
 rw[ml hr,hp];have a:=Cn hb;generalize pkV q h=V at a⊢;exact kG _ (⟨g,0,none⟩:Addr) w _ rfl |>.trans (kG _ V w _ a)
def tM(r:Pk×Nat×Int)(w:abP)(e:Ending)(w':abP):Prop:=∃h,e= .returned (.tuple #[pkV r.1 h,.int .i64 (r.2.1:Nat),.int .i64 r.2.2])/\PkIn w' w'.heap.size r.1 h/\abQ w w'/\ja w r.1 h
theorem gR{r:Pk×Nat×Int}{x:Int}(h:r=(pk0,0,x))(hb:abQ w w'):tM r w (.returned (.tuple #[pkV pk0 hs0,.int .i64 0,.int .i64 x])) w':=by
 subst h;exact⟨hs0,rfl,wM _ _,hb,.inl rfl⟩
theorem zF{r:Pk×Nat×Int}(hr:r=(p,n,0))(hi:PkIn w' w'.heap.size p h)(hb:abQ w w')(hf:ja w p h):tM r w (.returned (.tuple #[pkV p h,.int .i64 n,.int .i64 0])) w':=by
 subst hr;exact⟨h,rfl,hi,hb,hf⟩
theorem wS(v:Int)(s:abO)(w:abP)(hs:s.size<=1000000000000):Calls prog 30 #[.int .i64 v,.string s] w (tM (mqR v s) w):=by
 have H:Hid (mqR v s=if(hdR v s).2.2≠0 then(pk0,0,(hdR v s).2.2)
  else if s.size<(hdR v s).2.1+(hdR v s).1.n then(pk0,0,3)
  else if(chR v (hdR v s).1 (s.extract (hdR v s).2.1 ((hdR v s).2.1+(hdR v s).1.n))).2=0 then((chR v (hdR v s).1 (s.extract (hdR v s).2.1 ((hdR v s).2.1+(hdR v s).1.n))).1,(hdR v s).2.1+(hdR v s).1.n,0)
  else(pk0,0,if(chR v (hdR v s).1 (s.extract (hdR v s).2.1 ((hdR v s).2.1+(hdR v s).1.n))).2=3 then 5 else(chR v (hdR v s).1 (s.extract (hdR v s).2.1 ((hdR v s).2.1+(hdR v s).1.n))).2)):=aa rfl
 have HS:=aa hs;have HB:=aa ((aq w.heap.size w).alloc (ac _) (.cells (pkC pk0 hs0) PkT));have HK:=aa (Bk.fresh w PkT (pkC pk0 hs0));have o:=aa (λW=>qy v s W (by omega));have m:Hid ((hdR v s).2.2=0->dS v (hdR v s).1.k=true/\(hdR v s).1.n<=268435455/\(hdR v s).2.1<=s.size):=aa (λh0=>by
  obtain⟨b1,b2,b3,b4,b5⟩:=kw (v:=v) (s:=s) (h:=(hdR v s).1) (a:=(hdR v s).2.1) (by rw[<-h0]);exact⟨(Zc.1 b1).2.1,b2,b5⟩)
 clear hs;obtain⟨⟨⟨k,f,n⟩,a,x⟩,hr⟩:∃r,hdR v s=r:=⟨_,rfl⟩;rw[hr]at H o m;simp only[Cx]at H o m;clear hr;go_enter func30,ntmps30;go_wp2_with fail;refine Yg (o.o _) λY j=>?_;have F:=aa (Yf HB.o j);have J:=aa (HK.o.below j HK.o.lt);clear j o HB HK;obtain⟨y,X⟩:∃y,Y.alloc (.cells #[.int .i64 k,.int .i64 f,.int .i64 n] 61)=y:=⟨_,rfl⟩;have i:Hid (abQ w y):=aa (by rw[<-X];exact F.o.alloc F.o.size _);have b:Hid (Bk y w.heap.size PkT (pkC pk0 hs0)):=aa (by rw[<-X];exact J.o.alloc _);obtain⟨U,Q⟩:∃U,Y.heap.size=U:=⟨_,rfl⟩;have t:Hid (Bk y U 61 #[.int .i64 k,.int .i64 f,.int .i64 n]):=aa (by rw[<-X,<-Q];exact Bk.fresh Y _ _);go_upto_region 2 with fail
 have br:Hid (w.heap.size<U):=aa (by rw[<-Q];exact J.o.lt);clear X Q F J;clear Y;have a8:=aW b.o pk0 hs0;have G:Hid (abQ w (dE y w.heap.size pk0 hs0)):=aa (YQ i.o i.o.size (ac _) pk0 hs0);have K:=aa (cO b.o pk0 hs0);by_cases C:x=0;rotate_left
 ·have g:Hid (mqR v s=(pk0,0,x)):=aa (by rw[H.o,if_pos C]);have e0:(x !=0)=true:=aA.2 C;clear C;go_wp2;refine abZ (eZ rfl _ rfl K.o) rfl ?_;exact gR g.o G.o
 obtain⟨b1,b2,b3⟩:=m.o C;have aI:=aa b1;have I:Hid (mqR v s=if s.size<a+n then(pk0,0,3)else if(chR v ⟨k,f,n⟩ (s.extract a (a+n))).2=0 then((chR v ⟨k,f,n⟩ (s.extract a (a+n))).1,a+n,0)
  else(pk0,0,if(chR v ⟨k,f,n⟩ (s.extract a (a+n))).2=3 then 5 else(chR v ⟨k,f,n⟩ (s.extract a (a+n))).2)):=aa (by rw[H.o,Fl (λz=>z C)])
 subst C;have HN:=aa b2;have HA:=aa b3
 have ba:=HS.o;have c0:=t.o.cell 0;have c1:=t.o.cell 1;have c2:=t.o.cell 2
 simp only[ay,aE,aB]at c0 c1 c2;clear H m b1;by_cases p:s.size<a+n
 ·have g:Hid (mqR v s=(pk0,0,3)):=aa (by rw[I.o,if_pos p]);have d1:(s.size:Int) - (a:Int)<(n:Int):=by omega
  have d2: -9223372036854775808<=(s.size:Int) - (a:Int):=by omega
  have d3:(s.size:Int) - (a:Int)<=9223372036854775807:=by omega
  clear p;go_wp2;refine abZ (eZ rfl _ rfl K.o) rfl ?_;exact gR g.o G.o
 have d:Hid (mqR v s=if(chR v ⟨k,f,n⟩ (s.extract a (a+n))).2=0 then((chR v ⟨k,f,n⟩ (s.extract a (a+n))).1,a+n,0)
  else(pk0,0,if(chR v ⟨k,f,n⟩ (s.extract a (a+n))).2=3 then 5 else(chR v ⟨k,f,n⟩ (s.extract a (a+n))).2)):=aa (by rw[I.o,Fl p])
 have d1:(n:Int)<=(s.size:Int) - (a:Int):=by omega
 have aD:Hid (a+n<=s.size):=aa (by omega);have d2: -9223372036854775808<=(s.size:Int) - (a:Int):=by omega
 have d3:(s.size:Int) - (a:Int)<=9223372036854775807:=by omega
 have a9:wrap64 ((s.size:Int) - (a:Int))=(s.size:Int) - (a:Int):=by unfold wrap64;omega
 have aZ:wrap64 ((a:Int)+(n:Int))=((a+n:Nat):Int):=by unfold wrap64;omega
 have aU:decide ((s.size:Int) - (a:Int)<(n:Int))=false:=ah (by omega);have v1:(0:Int)<=(a:Int):=by omega
 have v2:(a:Int)<=((a+n:Nat):Int):=by omega
 have v3:((a+n:Nat):Int)<=(s.size:Int):=by omega
 clear p I;go_upto_region 7 with fail
 obtain⟨q,hq⟩:∃q,a+n=q:=⟨_,rfl⟩;rw[show(a:Int)+(n:Int)=(q:Int) by omega];rw[hq]at d aD v2 v3;clear d1 d2 d3 a9 aZ aU ba a8 hq;obtain⟨T,V⟩:∃T,s.extract a q=T:=⟨_,rfl⟩;rw[V]at d;have aL:Hid (T.size<=1000000000000):=aa (by rw[<-V,aj];have:=HS.o;omega);have M:=aa (λW=>Fj v ⟨k,f,n⟩ T W aL.o);obtain⟨R,hR⟩:∃R,chR v ⟨k,f,n⟩ T=R:=⟨_,rfl⟩;rw[hR]at d M;obtain⟨ca,cb,av,aw,ax,a2,a3⟩:=Et k;have ao:Dr k=true:=by
  have:=aR (show decide (1<=k/\(k<=14\/(k=15/\v=5)))=true from aI.o);exact au (by omega)
 obtain⟨rfl,rfl⟩:=ax ao;have L:=aa (fun(W:abP) (r:Nat) (V:fQ .i64 W r ns)=>(El V k av aw).2);have en:=λaG W=>CW (k:=k) aG W;simp only[FC]at L;clear av aw ax a2 a3 ao hR;generalize rF k=RF at*;go_cut [6] (λz D=>∃c,z= .int .i64 R.2/\Bk D w.heap.size PkT (pkC R.1 c)/\PkIn D D.heap.size R.1 c/\abQ w D/\ja y R.1 c)
 case first=>
  go_region_law ((first| (go_simp;go_at_call 46;refine(tC y.drew).mono ?_;rintro e w2 ⟨r,rfl,aX,j⟩;have bs:=L.o w2 r aX;have A:abQ y w2:=(aV (aq y.heap.size y) 1).trans j;have N:=t.o.below A t.o.lt;have ag:=b.o.below A b.o.lt;have k0:=N.cell 0;have k1:=N.cell 1;have k2:=N.cell 2;(simp only[ay,aE,aB]at k0 k1 k2)) | (go_simp;refine(M.o _).mono ?_;rintro e w3 ⟨c,rfl,a0,ai,am⟩;have O:=ag.below ai ag.lt;have bk:=aW O R.1 c)))
  all_goals
   go_wp2;go_meet
   case rel=>
    have af:abQ w w3:=i.o.trans ((Yf A ai).mono i.o.size);exact⟨c,rfl,cO O R.1 c,a0.put O (cJ _ _ _ _) am (YU b.o.lt A.size),YQ af af.size (ac _) R.1 c,am.mono A.size⟩
 obtain⟨c,rfl,l,ap,ak,an⟩:=hcut;obtain⟨D,bb⟩:∃x,x=wc:=⟨_,rfl⟩;subst bb;have S:=aa l;have IX:=aa ap;have BX:=aa ak;have FX:=aa an
 have lX:=cf l;have ae:=aa b.o.lt;have a6:=aW l R.1 c;have a7:=aW l pk0 hs0;clear l ap ak an c0 c1 c2 en L M t b i G K v1 v2 v3 b2 b3;obtain⟨P,E⟩:=R;dsimp only at d S IX BX FX lX a6 a7⊢;by_cases B:E=0
 ·have g:Hid (mqR v s=(P,q,0)):=aa (by rw[d.o,if_pos B]);subst B;go_wp2;refine abZ (eZ rfl _ rfl (cO S.o P c)) rfl ?_;exact zF g.o (IX.o.put S.o (cJ _ _ _ _) FX.o ae.o) (YQ BX.o BX.o.size (ac _) _ _) (FX.o.mono (pf ae.o))
 ·have ad:Hid (mqR v s=(pk0,0,if E=3 then 5 else E)):=aa (by rw[d.o,Fl B]);have e0:(E==0)=false:=ar.2 B;have j:abQ w (dE D w.heap.size pk0 hs0):=YQ BX.o BX.o.size (ac _) _ _;have hk:=cO S.o pk0 hs0;have Z:=aa j;have ab:=aa hk
  clear j hk;by_cases u:E=3
  ·have g:Hid (mqR v s=(pk0,0,5)):=aa (by rw[ad.o,if_pos u]);have e3:(E==3)=true:=aK.2 u;clear u B;go_wp2;refine abZ (eZ rfl _ rfl ab.o) rfl ?_;exact gR g.o Z.o
  ·have g:Hid (mqR v s=(pk0,0,E)):=aa (by rw[ad.o,Fl u]);have e3:(E==3)=false:=ar.2 u;clear u B;go_wp2;refine abZ (eZ rfl _ rfl ab.o) rfl ?_;exact gR g.o Z.o
end
theorem yb:∀(l m:List UInt8) (n k:Nat),(rv l n k).2.2≠3->rv (l++m) n k=rv l n k
 | [],m,n,k,h=>absurd rfl h
 | b :: l,m,n,k,h=>by
   rw[IJ,rv,rv];rw[rv]at h;split
   ·rename_i hb;rw[if_pos hb]at h;split
    ·rfl
    ·rename_i hk;rw[Fl hk]at h;exact yb l m _ _ h
   ·rfl
theorem ui:∀(l:List UInt8) (n k:Nat),k<=3->(rv l n k).2.2=3->l.length+k<=3
 | [],n,k,hk,_=>by simpa using hk
 | b :: l,n,k,hk,h=>by
   rw[rv]at h;split at h
   ·split at h
    ·simp at h
    ·have:=ui l _ (k+1) (by omega) h;rw[bM];omega
   ·split at h
    ·simp at h
    ·simp at h
theorem nd{s u:abO}(h:(hdR v s).2.2≠3):hdR v (s++u)=hdR v s:=by
 unfold hdR at h⊢;by_cases b:YG v=false
 ·simp only[if_pos b]
 by_cases c:s.size=0
 ·rw[Fl b,if_pos c]at h;exact absurd rfl h
 have f:(s++u).size≠0:=by rw[cK];omega
 have g:YW (s++u)=YW s:=by
  unfold YW;rw[fe];cases i:ls s with
  | nil=>exact absurd (by rw[<-aN,i];rfl) c
  | cons x l=>rfl
 have j:ls ((s++u).extract 1 (s++u).size)=ls (s.extract 1 s.size)++ls u:=by
  rw[jP,jP,fe,List.drop_append_of_le_length (by rw[aN];omega)]
 rw[Fl b,Fl c]at h;rw[Fl b,Fl f,Fl b,Fl c,g,j];by_cases a:ff v (YW s/ 16:Nat) (YW s% 16:Nat)≠0
 ·rw[if_pos a,if_pos a]
 rw[Fl a]at h;rw[Fl a,Fl a];have d:(YT (ls (s.extract 1 s.size))).2.2≠3:=by
  intro e;rw[if_pos (by rw[e];decide)]at h;exact h e
 rw[show YT (ls (s.extract 1 s.size)++ls u)=YT (ls (s.extract 1 s.size))from yb _ (ls u) 0 0 d]
theorem Ad(v k f:Int):ff v k f≠3:=by
 unfold ff;cases YG v<;>cases dS v k<;>cases eu k f<;>simp
theorem sf{s:abO}(h:(hdR v s).2.2=3):s.size<=4:=by
 unfold hdR at h;split at h
 ·simp at h
 split at h
 ·omega
 split at h
 ·exact absurd h (Ad _ _ _)
 split at h
 ·have:=ui _ 0 0 (by omega) h;rw[jP,bU,aN]at this;omega
 ·simp at h
theorem Cy(v:Int)(t:abO):hdR v (t.extract 0 (min t.size 5))=hdR v t:=by
 by_cases h:t.size<=5
 ·congr 1
  apply eX;rw[ix,bt (by rw[aN];omega)]
 ·have a:(hdR v (t.extract 0 5)).2.2≠3:=λe=>by
   have:=sf e;rw[aj]at this;omega
  have b:t.extract 0 5++t.extract 5 t.size=t:=eX (by rw[fe,ix,Y9,cg]);have:=nd (u:=t.extract 5 t.size) a;rw[b]at this;rw[show min t.size 5=5 by omega,this]
theorem ED(h:(hdR v t).2.2=0){z:Nat}(hz:(hdR v t).2.1<=z):hdR v (t.extract 0 z)=hdR v t:=by
 obtain⟨b1,b2,c,b,d⟩:=kw (v:=v) (s:=t) (h:=(hdR v t).1) (a:=(hdR v t).2.1) (by rw[<-h]);have:=ZT b1 b2 (s:=t.extract 0 z) (R:=((ls t).drop (hdR v t).2.1).take (z- (hdR v t).2.1)) (by
  rw[ix]
  conv=>lhs;rw[c]
  rw[ot,bt (by omega),<-b])
 rw[this,<-b,<-h]
def hdZ(v:Int)(t:abO):Nat:=(hdR v t).2.1+(hdR v t).1.n
theorem AZ(v:Int)(t:abO):smZ v t=if(hdR v t).2.2≠0 then(0,(hdR v t).2.2)else(hdZ v t,0):=by
 unfold smZ;rw[Cy];rfl
theorem nI(v most:Int)(t:abO):smN v most t=if(hdR v t).2.2≠0 then(pk0,0,(hdR v t).2.2)else if most<(hdZ v t:Nat)then(pk0,0,4)else if t.size<hdZ v t then(pk0,0,3)else mqR v (t.extract 0 (hdZ v t)):=by
 unfold smN;rw[AZ];by_cases h:(hdR v t).2.2≠0
 ·rw[if_pos h,if_pos h];exact(if_pos h).symm
 ·rw[Fl h,Fl h];exact Fl (λx=>x rfl)
theorem Ba(v most:Int):∀(f f':Nat) (t:abO) (a k:Nat) (l:List Pk),t.size<f->t.size<f'->smF v most f t a k l=smF v most f' t a k l
 | 0,_,_,_,_,_,h,_=>absurd h (by omega)
 | _+1,0,_,_,_,_,_,h=>absurd h (by omega)
 | f+1,f'+1,t,a,k,l,h,h'=>by
   rw[mU,mU];split
   ·rename_i h0;have:=jD h0;exact Ba v most f f' _ _ _ _ (by rw[aj];omega) (by rw[aj];omega)
   ·rfl
def smG(v most:Int)(t:abO)(a k:Nat)(l:List Pk):List Pk×abO×Nat×Nat×Int:=smF v most (t.size+1) t a k l
theorem fK(v most:Int)(t:abO)(a k:Nat)(l:List Pk):smG v most t a k l=
  if(smN v most t).2.2=0 then smG v most (t.extract (smN v most t).2.1 t.size) (a+(smN v most t).2.1) (k+1) (l++[(smN v most t).1])
  else if(smN v most t).2.2=3 then(l,t,a,k,0)
  else(l,⟨#[]⟩,a,k,(smN v most t).2.2):=by
 unfold smG;rw[mU];split
 ·rename_i b;have:=jD b;exact Ba v most _ _ _ _ _ _ (by rw[aj];omega) (ed _)
 ·rfl
section
def nF(v mp md:Int):Bool:=YG v&&decide (16<=mp/\mp<=1048576/\0<=md/\md<=32)
def zW(mp md:Int):Value:=.agg #[.int .i64 mp,.int .i64 md]
def WK(n:Nat)(z:Int):Bool:=decide (0<=z)&&decide (z<=(n:Int))
def plL(n:Nat)(l:List Int):List Int:=(l.filter (WK n)).mergeSort λx y=>decide (x<=y)
theorem Yd:∀a b c:Int,decide (a<=b)=true->decide (b<=c)=true->decide (a<=c)=true:=λa b c d e=>by
 simp only[Fx]at*;omega
theorem Ye:∀a b:Int,(decide (a<=b) || decide (b<=a))=true:=λa b=>by
 simp only[Bool.or_eq_true,Fx];omega
theorem Xu(n:Nat)(l:List Int):(plL n l).Pairwise λa b=>decide (a<=b)=true:=List.pairwise_mergeSort Yd Ye _
theorem XF{m:List Int}(h:(l.filter (WK n)).Perm m)(hm:m.Pairwise λa b=>decide (a<=b)=true):plL n l=m:=by
 refine List.Perm.eq_of_pairwise (le:=λa b=>decide (a<=b)=true) (λa b _ _ c d=>?_) (Xu n l) hm ((List.mergeSort_perm _ _).trans h);simp only[Fx]at c d;omega
theorem XO{z:Int}(h:z∈plL n l):z∈l/\0<=z/\z<=(n:Int):=by
 have b:=(List.mergeSort_perm _ _).mem_iff.1 h;obtain⟨c,a⟩:=WV.1 b;simp only[WK,eh,Fx]at a;exact⟨c,a⟩
theorem Xc(n:Nat)(l:List Int):(plL n l).length=(l.filter (WK n)).length:=(List.mergeSort_perm _ _).length_eq
theorem XA(n:Nat)(l:List Int):(plL n l).length<=l.length:=by
 rw[Xc];exact WJ _ _
structure PlOk (n:Nat) (L:List Int):Prop where
 rng:∀z∈L,0<=z/\z<=(n:Int)
 asc:L.Pairwise λa b=>decide (a<=b)=true
theorem Ya(n:Nat)(l:List Int):PlOk n (plL n l):=⟨λ_ h=>(XO h).2,Xu n l⟩
def lkA(L:List Int)(i:Nat):Nat:=if i=0 then 0 else(L.getD (i- 1) 0).toNat
def lkZ(L:List Int)(n i:Nat):Nat:=if i<L.length then(L.getD i 0).toNat else n
theorem vc(L:List Int):lkA L 0=0:=if_pos rfl
theorem vd(L:List Int)(i:Nat):lkA L (i+1)=(L.getD i 0).toNat:=by
 unfold lkA;rw[Fl (by omega),Nat.add_sub_cancel]
theorem FH{L:List Int}(h:i<L.length):lkZ L n i=lkA L (i+1):=by
 unfold lkZ;rw[if_pos h,vd]
theorem Eu{L:List Int}(h:¬i<L.length):lkZ L n i=n:=Fl h
theorem EF{L:List Int}(h:i<L.length):L.getD i 0=L[i]:=by
 simp[List.getD,List.getElem?_eq_getElem h]
theorem PlOk.at{L:List Int}(x:PlOk n L)(h:i<L.length):((lkA L (i+1):Nat):Int)=L[i]/\lkA L (i+1)<=n:=by
 have:=x.rng _ (iY h);rw[vd,EF h];omega
theorem PlOk.le{L:List Int}(x:PlOk n L)(h:i<=L.length):lkA L i<=lkZ L n i/\lkZ L n i<=n:=by
 rcases fj i L.length with a| a
 ·rw[FH a];refine⟨?_,(x.at a).2⟩;rcases dh i with rfl| b
  ·rw[vc];exact ag _
  ·obtain⟨k,rfl⟩:∃k,i=k+1:=⟨i- 1,by omega⟩;have c:=(x.at (show k<L.length by omega)).1;have d:=(x.at a).1;have e:L[k]'(by omega)<=L[k+1]:=by
    have:=List.pairwise_iff_getElem.1 x.asc k (k+1) (by omega) a (by omega)
    simpa using this
   omega
 ·rw[Eu (by omega)];refine⟨?_,ac _⟩;rcases dh i with rfl| b
  ·rw[vc];exact ag _
  ·obtain⟨k,rfl⟩:∃k,i=k+1:=⟨i- 1,by omega⟩;exact(x.at (show k<L.length by omega)).2
def lkS(s:abO)(L:List Int)(i:Nat):abO:=s.extract (lkA L i) (lkZ L s.size i)
def lkL(s:abO)(L:List Int):List abO:=(List.range (L.length+1)).map (lkS s L)
theorem XR(s:abO)(L:List Int):(lkL s L).length=L.length+1:=by simp[lkL]
theorem Xh(s:abO)(L:List Int)(i:Nat):(List.range (i+1)).map (lkS s L)=(List.range i).map (lkS s L)++[lkS s L i]:=by
 rw[List.range_succ,Ii];rfl
theorem Xm:lkL ⟨#[97,98,99]⟩ (plL 3 [2,0])=[⟨#[]⟩,⟨#[97,98]⟩,⟨#[99]⟩]:=by
 rw[show plL 3 [2,0]=[0,2]from XF (List.Perm.swap _ _ _) (by decide)]
 decide+kernel
def txv(l:List abO):List Value:=l.map Value.string
theorem Xf(l:List abO)(x:abO):txv (l++[x])=txv l++[.string x]:=by simp[txv]
theorem Xt(l:List abO):∀u∈txv l,u.oneCell'=true:=by
 intro u a;obtain⟨c,_,rfl⟩:=jX.1 a;rfl
theorem Rd.atT{l:List abO}(h:Rd w B 1 A n (txv l))(hi:i<n):∃b o z,A=some ⟨b,o,none⟩/\b<B/\l[i]? =some z/\w.cell? ⟨b,o+i,none⟩=some (.string z):=by
 obtain⟨b,o,u,e,c,f,d⟩:=h.at1 hi;have a:i<l.length:=by have:=h.len;simp[txv]at this;omega
 refine⟨b,o,l[i],e,c,List.getElem?_eq_getElem a,?_⟩;have:u= .string l[i]:=by simpa [txv,a]using f.symm
 rw[<-this];exact d
end
