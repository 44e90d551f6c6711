/- A part of what the laws stand on: PkR, MsR, MsA, MqC, MqD, MqF. -/
import Derived.Test.YtbdgkkmbnahgiaaGreatDoorMfG0HdC
set_option maxRecDepth 10000
set_option maxHeartbeats 8000000
namespace Go.Proofs.YtbdgkkmbnahgiaaGreatDoor
open Go.RowKit Go.Proofs.Tryz
section
def pks(L:List (Pk×Hs)):List Value:=L.flatMap fun x=>(pkC x.1 x.2).toList
theorem kM(x:Pk×Hs):((pkC x.1 x.2).toList).length=25:=rfl
theorem gJ(L:List (Pk×Hs)):(pks L).length=L.length*25:=iA kM L
theorem Ef:pks []=[]:=rfl
theorem m6(x:Pk×Hs)(L:List (Pk×Hs)):pks (x :: L)=(pkC x.1 x.2).toList++pks L:=rfl
theorem pE(L M:List (Pk×Hs)):pks (L++M)=pks L++pks M:=by
 unfold pks;rw[fR]
theorem mG(L:List (Pk×Hs))(i r:Nat)(h:i<L.length)(hr:r<25):(pks L)[i*25+r]? =(pkC L[i].1 L[i].2)[r]? :=by
 have:=kQ kM L i r h hr;rw[show pks L=L.flatMap fun x=>(pkC x.1 x.2).toList from rfl,this];simp
theorem ln:∀(L:List (Pk×Hs)) (n:Nat),(pks L).take (n*25)=pks (L.take n)
 | L,0=>by simp[pks]
 | [],n+1=>by simp[pks]
 | x :: L,n+1=>by
   rw[GG,m6,m6,ot,bt (by rw[kM x];omega),kM x,show(n+1)*25- 25=n*25 by omega,ln L n]
theorem uR:∀(L:List (Pk×Hs)) (n:Nat),(pks L).drop (n*25)=pks (L.drop n)
 | L,0=>by simp
 | [],n+1=>by simp[pks]
 | x :: L,n+1=>by
   rw[ji,m6,List.drop_append,gD (by rw[kM x];omega),kM x,show(n+1)*25- 25=n*25 by omega,uR L n,dX]
theorem Ee(L:List (Pk×Hs)):∀u∈pks L,u.oneCell'=true:=by
 intro u hu;obtain⟨x,-,hx⟩:=ou.1 hu;have h:=yy x.1 x.2;rw[Array.all_eq_true_iff_forall_mem]at h;exact h u (by simpa using hx)
theorem yx{L:List (Pk×Hs)}{o:Nat}{v:Value}(h:(pks L)[o]? =some v):∃i r,o=i*25+r/\r<25/\i<L.length:=by
 have hlt:=(cR.1 h).1;rw[gJ]at hlt;exact⟨o/ 25,o% 25,by omega,by omega,by omega⟩
theorem uQ(L:List (Pk×Hs)):∀(i:Nat) (n:Int),(pks L).toArray[i]? ≠some (Value.int IntKind.u32 n):=by
 intro o n h;rw[ay]at h;obtain⟨i,r,rfl,hr,hi⟩:=yx h;rw[mG L i r hi hr]at h;exact dY _ _ _ _ h
theorem BN(L:List (Pk×Hs))(o:Nat)(a:ByteArray)(b:Int)(_c d:Bool)(h0:(pks L).toArray[o]? =some (.string a))(h1:(pks L).toArray[o+1]? =some (.int .i64 b))(h3:(pks L).toArray[o+3]? =some (.bool d)):False:=by
 rw[ay]at h0 h1 h3;obtain⟨i,r,rfl,hr,hi⟩:=yx h0;rw[mG L i r hi hr]at h0;have g1:r+1<25->(pkC L[i].1 L[i].2)[r+1]? =some (.int .i64 b):=fun h=>by rw[<-mG L i (r+1) hi h,<-Nat.add_assoc];exact h1
 have g3:r+3<25->(pkC L[i].1 L[i].2)[r+3]? =some (.bool d):=fun h=>by rw[<-mG L i (r+3) hi h,<-Nat.add_assoc];exact h3
 clear h1 h3;generalize L[i]=x at*;rcases r with _| _| _| _| _| _| _| _| _| _| _| _| _| _| _| _| _| _| _| _| _| _| _| _| _| r
 all_goals first| (simp[pkC]at h0;done) | (simp[pkC]at g1;done) | (simp[pkC]at g3;done) | omega
theorem BM(n:Nat):(Builtin.zeroCells (pkC pk0 hs0) n).toList=pks (List.replicate n (pk0,hs0)):=by
 apply dM;intro j
 by_cases hj:j<n*25
 ·have h:=mG (List.replicate n (pk0,hs0)) (j/ 25) (j% 25) (by simp;omega) (by omega);rw[show j/ 25*25+j% 25=j by omega]at h;have h2:(pkC pk0 hs0)[j% 25]? =some ((pkC pk0 hs0)[j% 25]!):=by
   have hlt:j% 25<(pkC pk0 hs0).size:=by rw[bo];omega
   rw[eL hlt,getElem!_pos (pkC pk0 hs0) (j% 25) hlt]
  rw[h,List.getElem_replicate,h2];simp[Builtin.zeroCells,bo,hj]
 ·rw[aG (by rw[fT,size_zeroCells,bo];omega),aG (by rw[gJ,List.length_replicate];omega)]
theorem Rd.otherN{w w':World}{B g:Nat}{A:Option Addr}{l:List Fi}{t:TypeId}{cs:Array Value}(h:Rd w B 5 A l.length (fis l))(hbk:Bk w g t cs)
  (hcs:∀(o:Nat) (a:ByteArray) (b:Int) (_c d:Bool),cs[o]? =some (.string a)->cs[o+1]? =some (.int .i64 b)->cs[o+3]? =some (.bool d)->False)(hm:w.grownBy w' (some g))(hB:B<=w.heap.size):Rd w' B 5 A l.length (fis l):=by
 refine h.grown hm hB ?_;rintro b o rfl hx rfl;cases l with
 | nil=>exact hx rfl
 | cons f l=>
   obtain⟨b',o',e,-,h0,h1,h2,h3,-⟩:=h.atF (i:=0) (by simp);simp only[aX,Addr.mk.injEq]at e;obtain⟨rfl,rfl,-⟩:=e;rw[hbk.cell]at h0 h1 h2 h3;simp only[jU,jV,List.getElem_cons_zero]at h0 h1 h2 h3;exact hcs o _ _ false _ h0 h1 h3
def gG(g:Nat)(x:Pk×Hs):Prop:=x.1.codes=[]\/∀b o,x.2.codes.a=some ⟨b,o,none⟩->b≠g
theorem FI{l:List Int}(h:iv l=[]):l=[]:=by
 cases l with
 | nil=>rfl
 | cons z l=>simp[iv]at h
theorem PkIn.apart{w:World}{p:Pk}{h:Hs}{B:Nat}(hi:PkIn w B p h){g:Nat}(hg:B<=g):gG g (p,h):=by
 rcases hi.codes.2 with h0| ⟨b,o,hA,hb,-⟩
 ·exact .inl (FI h0)
 ·refine .inr fun b' o' e=>?_;dsimp only at e;rw[hA]at e;cases e;omega
theorem ja.apart{w:World}{p:Pk}{h:Hs}(hf:ja w p h){g:Nat}(hg:g<w.heap.size):gG g (p,h):=by
 rcases hf with h0| h0
 ·exact .inl h0
 ·exact .inr fun b o e=>by have:=h0 b o e;omega
theorem PkIn.row{x y:World}{g:Nat}{p:Pk}{h:Hs}{L:List (Pk×Hs)}(hi:PkIn x x.heap.size p h)(hbk:Bk x g PkT (pks L).toArray)(hm:x.grownBy y (some g))(hf:gG g (p,h)):PkIn y y.heap.size p h:=by
 refine⟨(hi.wp.other hbk (uQ L) hm (ac _)).wider hm.size,?_,(hi.filters.otherN hbk (BN L) hm (ac _)).wider hm.size,(hi.props.other hbk (uQ L) hm (ac _)).wider hm.size,hi.caps⟩;refine(hi.codes.grown hm (ac _) ?_).wider hm.size;intro b o e hx;rcases hf with h| h
 ·dsimp only at h;rw[h]at hx;exact absurd rfl hx
 ·exact h b o e
structure RowK (w0 w:World) (A:Option Addr) (n c:Nat) (L:List (Pk×Hs)):Prop where
 len:L.length=n
 lies:(A=none/\n=0/\c=0)\/∃g M,A=some ⟨g,0,none⟩/\w0.heap.size<=g/\Bk w g PkT (pks M).toArray/\M.length=c/\n<=c/\c<=maxLen/\M.take n=L
section
variable {w0 w y:World} {A:Option Addr} {n c:Nat} {L:List (Pk×Hs)}
theorem RowK.start(w0 w:World):RowK w0 w none 0 0 []:=⟨rfl,.inl ⟨rfl,rfl,rfl⟩⟩
theorem RowK.below(h:RowK w0 w A n c L)(hb:Below w.heap.size w y):RowK w0 y A n c L:=by
 refine⟨h.len,?_⟩;rcases h.lies with h1| ⟨g,M,h1,h2,h3,h4⟩
 ·exact .inl h1
 ·exact .inr ⟨g,M,h1,h2,h3.below hb h3.lt,h4⟩
theorem RowK.block(h:RowK w0 w A n c L){g o:Nat}(e:A=some ⟨g,o,none⟩):w0.heap.size<=g/\g<w.heap.size:=by
 rcases h.lies with ⟨h1,-⟩ | ⟨g',M,h1,h2,h3,-⟩
 ·rw[h1]at e;cases e
 ·rw[h1]at e;cases e
  exact⟨h2,h3.lt⟩
theorem RowK.own(h:RowK w0 w A n c L){g:Nat}(e:(Value.slice A n c).ownBlock=some g):w0.heap.size<=g/\g<w.heap.size:=by
 cases A with
 | none=>cases e
 | some a=>
   obtain⟨b,o,s⟩:=a;rcases h.lies with ⟨h1,-⟩ | ⟨g',M,h1,h2,h3,-⟩
   ·cases h1
   ·cases h1;simp only[Value.ownBlock,aX]at e;subst e;exact⟨h2,h3.lt⟩
theorem RowK.rd(h:RowK w0 w A n c L):Rd w w.heap.size 25 A n (pks L):=by
 refine⟨by rw[gJ,h.len],?_⟩;rcases h.lies with ⟨-,h1,-⟩ | ⟨g,M,h1,h2,h3,h4,h5,h6,h7⟩
 ·refine .inl ?_;have:=h.len;rw[aF (by omega:L.length=0)];rfl
 ·refine .inr ⟨g,0,h1,h3.lt,fun j u hu=>?_⟩;rw[bV,h3.cell,ay];rw[<-h7,<-ln,List.getElem?_take]at hu;split at hu
  ·exact hu
  ·cases hu
theorem RowK.keep(h:RowK w0 w A n c L)(hm:w.grownBy y (Value.slice A n c).ownBlock){p:Pk}{k:Hs}(hi:PkIn w w.heap.size p k)(ha:∀g o,A=some ⟨g,o,none⟩->gG g (p,k)):PkIn y y.heap.size p k:=by
 rcases h.lies with ⟨rfl,-⟩ | ⟨g,M,rfl,-,h3,-⟩
 ·exact hi.next ⟨hm.os,hm.tape,hm.output,hm.size,fun i hi=>hm.block i hi (by simp[Value.ownBlock])⟩
 ·exact hi.row h3 hm (ha g 0 rfl)
end
theorem vm:(prog.info? PkT).map (fun i=>(i.zero,i.size,i.bytes))=some (some (pkV pk0 hs0),25,312):=by kernel_rfl
theorem Bo{w0 w:World}{A:Option Addr}{n c:Nat}{L:List (Pk×Hs)}(hr:RowK w0 w A n c L)(h0:w0.heap.size<=w.heap.size)(ty:TypeId)(X:Addr)(N:List (Pk×Hs))(m cx B:Nat)(hN:N.length=m)(hm:0<m)(hs:Rd w B 25 (some X) m (pks N))(hb:n+m<=100000000000):
  ∃g c' w',(Builtin.append_ #[48,48] ty #[.slice A n c,.slice (some X) m cx]).run prog w= .ok (.slice (some ⟨g,0,none⟩) (n+m) c') w'/\
   RowK w0 w' (some ⟨g,0,none⟩) (n+m) c' (L++N)/\w.grownBy w' (Value.slice A n c).ownBlock/\((Value.slice A n c).ownBlock=some g\/g=w.heap.size)/\g<w'.heap.size:=by
 obtain⟨i,hi,hz,hsize,hby⟩:=o8 vm;have ht:=underlying48;have hzc:(pkV pk0 hs0).cells=pkC pk0 hs0:=rfl;have hlen:(pks N).length=m*i.size:=by rw[gJ,hN,hsize]
 have hlenA:(L++N).length=n+m:=by rw[List.length_append,hr.len,hN]
 have hsrc:∀j u,(pks N)[j]? =some u->w.cell? (X.add j)=some u:=by
  obtain⟨ad,e,-,hc⟩:=hs.addr (by
   intro e;have:=gJ N;rw[e]at this;simp at this;omega)
  cases e;exact hc
 have grown:∀(need old:Nat),need=n+m->old<need->RowK w0 (w.drew.alloc (.cells ((pks L).toArray++(pks N).toArray++Builtin.zeroCells (pkV pk0 hs0).cells (grownCap w need old PkT- need)) PkT)) (some ⟨w.heap.size,0,none⟩) need (grownCap w need old PkT) (L++N)/\
   (∀row,w.grownBy (w.drew.alloc (.cells ((pks L).toArray++(pks N).toArray++Builtin.zeroCells (pkV pk0 hs0).cells (grownCap w need old PkT- need)) PkT)) row)/\w.heap.size<(w.drew.alloc (.cells ((pks L).toArray++(pks N).toArray++Builtin.zeroCells (pkV pk0 hs0).cells (grownCap w need old PkT- need)) PkT)).heap.size:=by
  intro need old hneed hold;have hge:=grownCap_ge w need old PkT;have hcm:grownCap w need old PkT<=maxLen:=grownCap_le_maxLen w need old PkT (by unfold maxLen;omega);refine⟨⟨by rw[hlenA,hneed],.inr ⟨w.heap.size,L++N++List.replicate (grownCap w need old PkT- need) (pk0,hs0),rfl,h0,?_,?_,hge,hcm,?_⟩⟩,fun row=>⟨rfl,rfl,rfl,by simp,fun k hk _=>heap_alloc_old w.drew _ hk⟩,by simp⟩
  ·have:(pks L).toArray++(pks N).toArray++Builtin.zeroCells (pkV pk0 hs0).cells (grownCap w need old PkT- need)=(pks (L++N++List.replicate (grownCap w need old PkT- need) (pk0,hs0))).toArray:=by
    apply oz.1;rw[hzc,Array.toList_append,Array.toList_append,BM,pE,pE]
   rw[this];exact Bk.fresh w.drew _ _
  ·rw[List.length_append,hlenA,List.length_replicate];omega
  ·rw[eW (by rw[hlenA];omega),bt (by rw[hlenA];omega)]
 rcases hr.lies with ⟨rfl,rfl,rfl⟩ | ⟨g,M,rfl,h2,h3,h4,h5,h6,h7⟩
 ·have hL:L=[]:=aF hr.len;subst hL;have hrun:=run_append_nil (P:=prog) w 48 ty PkT i (pkV pk0 hs0) ht hi hz X m cx (pks N) hlen hsrc hm (by omega) (by rw[hby];omega);obtain⟨g1,g2,g3⟩:=grown m 0 (by omega) hm;rw[show(pks []).toArray= #[]from rfl]at g1 g2 g3;simp only[Array.empty_append]at g1 g2 g3;rw[bV];exact⟨_,_,_,hrun,g1,g2 _,.inr rfl,g3⟩
 ·by_cases hroom:n+m<=c
  ·have hrun:=run_append_room (P:=prog) w 48 ty PkT i ht hi g n c (pks M).toArray h3 X m cx (pks N) hlen hsrc (Ee N) hroom (by rw[hsize,gJ,hN,List.size_toArray,gJ,h4];omega);refine⟨g,c,_,hrun,⟨hlenA,.inr ⟨g,M.take n++N++M.drop (n+m),rfl,h2,?_,?_,hroom,h6,?_⟩⟩,⟨rfl,rfl,rfl,by simp,fun k _ hk=>setRow_other w g k _ (fun e=>hk (by simp[Value.ownBlock,e]))⟩,.inl rfl,?_⟩
   ·have:=setRow_heap w g (pks M).toArray ((pks M).take (n*i.size)++pks N++(pks M).drop (n*i.size+(pks N).length)).toArray PkT (0,0) h3;unfold Bk;rw[pE,pE,<-ln,<-uR];rw[hlen,hsize,<-iK]at this⊢;exact this
   ·rw[List.length_append,List.length_append,cY,bU,hN,h4];omega
   ·rw[eW (by rw[List.length_append,cY,hN,h4];omega),bt (by rw[List.length_append,cY,hN,h4];omega),h7]
   ·simpa using h3.lt
  ·have hlo:(pks L).length=n*i.size:=by rw[gJ,hr.len,hsize]
   have hrd:=hr.rd;have hol:∀j u,(pks L)[j]? =some u->w.cell? ((⟨g,0,none⟩:Addr).add j)=some u:=by
    intro j u hu;rw[Addr.add_lit,bV,h3.cell,ay];rw[<-h7,<-ln,List.getElem?_take]at hu;split at hu
    ·exact hu
    ·cases hu
   have hrun:=run_append_grow (P:=prog) w 48 ty PkT i (pkV pk0 hs0) ht hi hz ⟨g,0,none⟩ n c (pks L) hlo hol X m cx (pks N) hlen hsrc (by omega) (by omega) (growslice_fits (by omega) (by rw[hby];omega));obtain⟨g1,g2,g3⟩:=grown (n+m) c rfl (by omega);exact⟨_,_,_,hrun,g1,g2 _,.inr rfl,g3⟩
theorem DB{w:World}{o:Oper}{a:Act}{K:Act->World->Prop}{Q:Exit->Act->World->Prop}(s x:Operand)
  (ho:o.op= .call {callee:=.builtin .append,args:=#[s,x],argTypes:=#[48,48]})
  {w0:World}{A:Option Addr}{n c:Nat}{L:List (Pk×Hs)}(hs:a.eval s= .slice A n c)(hr:RowK w0 w A n c L)(h0:w0.heap.size<=w.heap.size)(X:Addr)(N:List (Pk×Hs))(m cx B:Nat)(hx:a.eval x= .slice (some X) m cx)(hN:N.length=m)(hm:0<m)(hsr:Rd w B 25 (some X) m (pks N))(hb:n+m<=100000000000)
  (h:∀g c' w',RowK w0 w' (some ⟨g,0,none⟩) (n+m) c' (L++N)->w.grownBy w' (Value.slice A n c).ownBlock->((Value.slice A n c).ownBlock=some g\/g=w.heap.size)->g<w'.heap.size->K (a.put o.dst (.slice (some ⟨g,0,none⟩) (n+m) c')) w'):o.wp prog a w K Q:=by
 obtain⟨g,c',w',hrun,h1,h2,h3,h4⟩:=Bo hr h0 o.type X N m cx B hN hm hsr hb;unfold Oper.wp execOp;simp only[ho,resolve,invoke,builtin,Sem.run_bind,Sem.run_pure,ik,kD,fI,gC,hs,hx,hrun];exact h g c' w' h1 h2 h3 h4
theorem oE{w:World}{ops:Array Oper}{rest:List Oper}{o:Oper}{a:Act}{Q:Exit->Act->World->Prop}(hgd:o.guard=none)(s x:Operand)
  (ho:o.op= .call {callee:=.builtin .append,args:=#[s,x],argTypes:=#[48,48]})
  {w0:World}{A:Option Addr}{n c:Nat}{L:List (Pk×Hs)}(hs:a.eval s= .slice A n c)(hr:RowK w0 w A n c L)(h0:w0.heap.size<=w.heap.size)(X:Addr)(N:List (Pk×Hs))(m cx B:Nat)(hx:a.eval x= .slice (some X) m cx)(hN:N.length=m)(hm:0<m)(hsr:Rd w B 25 (some X) m (pks N))(hb:n+m<=100000000000)
  (h:∀g c' w',RowK w0 w' (some ⟨g,0,none⟩) (n+m) c' (L++N)->w.grownBy w' (Value.slice A n c).ownBlock->((Value.slice A n c).ownBlock=some g\/g=w.heap.size)->g<w'.heap.size->wpList prog ops Q rest (a.put o.dst (.slice (some ⟨g,0,none⟩) (n+m) c')) w'):wpList prog ops Q (o :: rest) a w:=
 lb hgd fun _ hK=>DB s x ho hs hr h0 X N m cx B hx hN hm hsr hb fun g c' w' h1 h2 h3 h4=>hK _ _ (h g c' w' h1 h2 h3 h4)
def Gn(v:Array (Nat×Value)):Sem Value:=Instr.buildSlice 48 1 v
theorem xS(v:Array (Nat×Value)):Instr.buildSlice 48 1 v=Gn v:=rfl
theorem um(p:Pk)(h:Hs)(w:World):(Gn #[(0,pkV p h)]).run prog w= .ok (.slice (some ⟨w.heap.size,0,none⟩) 1 1) (w.alloc (.cells (pkC p h) PkT)):=by kernel_rfl
theorem Fs(W:World)(p:Pk)(h:Hs){g:Nat}(hg:W.heap.size=g):Rd (W.alloc (.cells (pkC p h) PkT)) (g+1) 25 (some ⟨g,0,none⟩) 1 (pks [(p,h)]):=by
 subst hg;refine⟨by rw[gJ];rfl,.inr ⟨_,0,rfl,ed _,fun j u hu=>?_⟩⟩;rw[bV,(Bk.fresh W PkT (pkC p h)).cell];have e:pks [(p,h)]=(pkC p h).toList:=by rw[m6,Ef,cW]
 rw[e]at hu
 simpa using hu
structure RdK (w:World) (A:Option Addr) (n:Nat) (L:List (Pk×Hs)):Prop where
 rd:Rd w w.heap.size 25 A n (pks L)
 ins:∀x∈L,PkIn w w.heap.size x.1 x.2
theorem RdK.below{w y:World}{A:Option Addr}{n:Nat}{L:List (Pk×Hs)}(h:RdK w A n L)(hb:Below w.heap.size w y):RdK y A n L:=⟨(h.rd.below hb).wider hb.size,fun x hx=>(h.ins x hx).next hb⟩
theorem RdK.len{w:World}{A:Option Addr}{n:Nat}{L:List (Pk×Hs)}(h:RdK w A n L):L.length=n:=by
 have h1:=h.rd.1;rw[gJ]at h1;omega
theorem RdK.at{w:World}{A:Option Addr}{n:Nat}{L:List (Pk×Hs)}(h:RdK w A n L){i:Nat}(hi:i<n):∃b o p k,A=some ⟨b,o,none⟩/\L[i]? =some (p,k)/\b<w.heap.size/\
  (∀y,Below w.heap.size w y->(kZ (.pointer (some ⟨b,o+i*25,none⟩))).run prog y= .ok (pkV p k) y)/\PkIn w w.heap.size p k:=by
 have hl:=h.len;have hlt:i<L.length:=by omega
 rcases h.rd.2 with h0| ⟨b,o,rfl,hb,hc⟩
 ·have:=gJ L;rw[h0]at this;simp at this;omega
 ·refine⟨b,o,L[i].1,L[i].2,rfl,List.getElem?_eq_getElem hlt,hb,fun y hy=>?_,h.ins _ (iY hlt)⟩;unfold kZ;refine run_loadAt_mid y b (o+i*25) PkT (pkC L[i].1 L[i].2).toList _ ?_ underlying29 rfl (by rw[fT,bo];exact tk);intro j u hu;have hj:j<25:=by
   rcases fj j 25 with h| h
   ·exact h
   ·rw[aG (by rw[kM];exact h)]at hu;cases hu
  rw[Nat.add_assoc,hy.cell (p:=⟨b,o+(i*25+j),none⟩) hb];refine hc (i*25+j) u ?_;rw[mG L i j hlt hj]
  simpa using hu
structure RowI (w0 w:World) (A:Option Addr) (n c:Nat) (L:List (Pk×Hs)):Prop where
 row:RowK w0 w A n c L
 ins:∀x∈L,PkIn w w.heap.size x.1 x.2
 apart:∀x∈L,∀g o,A=some ⟨g,o,none⟩->gG g x
section
variable {w0 w y:World} {A:Option Addr} {n c:Nat} {L:List (Pk×Hs)}
theorem RowI.start(w0 w:World):RowI w0 w none 0 0 []:=⟨RowK.start _ _,by simp,by simp⟩
theorem RowI.below(h:RowI w0 w A n c L)(hb:Below w.heap.size w y):RowI w0 y A n c L:=⟨h.row.below hb,fun x hx=>(h.ins x hx).next hb,h.apart⟩
theorem RowI.read(h:RowI w0 w A n c L):RdK w A n L:=⟨h.row.rd,h.ins⟩
theorem RowI.more(h:RowI w0 w A n c L){g c' m:Nat}{N:List (Pk×Hs)}(hr:RowK w0 y (some ⟨g,0,none⟩) (n+m) c' (L++N))(hm:w.grownBy y (Value.slice A n c).ownBlock)(hg:(Value.slice A n c).ownBlock=some g\/g=w.heap.size)
  (hi:∀x∈N,PkIn w w.heap.size x.1 x.2)(ha:∀x∈N,∀g o,A=some ⟨g,o,none⟩->gG g x):RowI w0 y (some ⟨g,0,none⟩) (n+m) c' (L++N):=by
 have hin:∀x∈L++N,PkIn w w.heap.size x.1 x.2:=fun x hx=>(cj.1 hx).elim (h.ins x) (hi x);have hap:∀x∈L++N,∀g o,A=some ⟨g,o,none⟩->gG g x:=fun x hx=>(cj.1 hx).elim (h.apart x) (ha x);refine⟨hr,fun x hx=>h.row.keep hm (hin x hx) (hap x hx),fun x hx g' o e=>?_⟩;cases e;rcases hg with hg| hg
 ·cases A with
  | none=>cases hg
  | some a=>
    obtain⟨b,o,s⟩:=a;rcases h.row.lies with ⟨h1,-⟩ | ⟨g',M,h1,-⟩
    ·cases h1
    ·cases h1;simp only[Value.ownBlock,aX]at hg;subst hg;exact hap x hx _ 0 rfl
 ·exact(hin x hx).apart (by omega)
end
end
section
abbrev U8:TypeId:=5
theorem lM(l:List UInt8)(n:Nat):(bys l).take n=bys (l.take n):=by simp[bys,List.map_take]
theorem qN(l:List UInt8)(n:Nat):(bys l).drop n=bys (l.drop n):=by simp[bys,List.map_drop]
theorem yN(s:ByteArray):Lib.strCells s=bys (ls s):=rfl
theorem Dt(n:Nat):(Builtin.zeroCells (Value.int .u8 0).cells n).toList=bys (List.replicate n 0):=by
 apply dM;intro j;have hc:(Value.int .u8 0).cells= #[.int .u8 0]:=rfl;rw[hc]
 by_cases hj:j<n
 ·simp[Builtin.zeroCells,bys,hj,Nat.mod_one]
 ·rw[aG (by rw[fT,size_zeroCells];simp;omega),aG (by rw[nu,List.length_replicate];omega)]
theorem qM(l:List UInt8){i:Nat}{u:Value}(h:(bys l).toArray[i]? =some u):∃b:UInt8,u= .int .u8 (b.toNat:Int):=by
 rw[ay]at h;unfold bys at h;rw[List.getElem?_map]at h;obtain⟨b,-,h2⟩:=Option.map_eq_some_iff.1 h;exact⟨b,h2.symm⟩
theorem PkIn.bytes{x y:World}{g:Nat}{p:Pk}{h:Hs}{M:List UInt8}(hi:PkIn x x.heap.size p h)(hbk:Bk x g U8 (bys M).toArray)(hm:x.grownBy y (some g)):PkIn y y.heap.size p h:=by
 have h32:∀(i:Nat) (n:Int),(bys M).toArray[i]? ≠some (Value.int IntKind.u32 n):=fun i n e=>by
  obtain⟨b,hb⟩:=qM M e;cases hb
 refine⟨(hi.wp.other hbk h32 hm (ac _)).wider hm.size,?_,(hi.filters.otherN hbk ?_ hm (ac _)).wider hm.size,(hi.props.other hbk h32 hm (ac _)).wider hm.size,hi.caps⟩
 ·refine(hi.codes.grown hm (ac _) ?_).wider hm.size;rintro b o hA hx rfl;rcases hi.codes.2 with h0| ⟨b',o',e,-,hc⟩
  ·exact hx h0
  ·rw[hA]at e;cases e;cases hcd:p.codes with
   | nil=>rw[hcd]at hx;exact hx rfl
   | cons z l=>
     have:=hc 0 (.int .i64 z) (by rw[hcd];rfl);rw[hbk.cell]at this;obtain⟨b,hb⟩:=qM M this;cases hb
 ·intro o a b c d h0 h1 h3;obtain⟨z,hz⟩:=qM M h0;cases hz
structure Kp (w0 w:World) (K:Option Addr) (n c:Nat) (t:List UInt8):Prop where
 len:t.length=n
 cap:n<=c
 lies:(K=none/\n=0/\c=0)\/∃g o M,K=some ⟨g,o,none⟩/\w0.heap.size<=g/\Bk w g U8 (bys M).toArray/\(M.drop o).take n=t/\o+n<=M.length/\(c=n\/(o=0/\M.length=c/\c<=maxLen))
section
variable {w0 w y:World} {K:Option Addr} {n c:Nat} {t:List UInt8}
theorem Kp.none(w0 w:World):Kp w0 w none 0 0 []:=⟨rfl,ac _,.inl ⟨rfl,rfl,rfl⟩⟩
theorem Kp.below(h:Kp w0 w K n c t)(hb:Below w.heap.size w y):Kp w0 y K n c t:=by
 refine⟨h.len,h.cap,?_⟩;rcases h.lies with h1| ⟨g,o,M,h1,h2,h3,h4⟩
 ·exact .inl h1
 ·exact .inr ⟨g,o,M,h1,h2,h3.below hb h3.lt,h4⟩
theorem Kp.rd(h:Kp w0 w K n c t):Rd w w.heap.size 1 K n (bys t):=by
 refine⟨by rw[nu,h.len,rB],?_⟩;rcases h.lies with ⟨-,h1,-⟩ | ⟨g,o,M,h1,h2,h3,h4,h5,h6⟩
 ·refine .inl ?_;have:=h.len;rw[aF (by omega:t.length=0)];rfl
 ·refine .inr ⟨g,o,h1,h3.lt,fun j u hu=>?_⟩;rw[h3.cell,ay];rw[<-h4,<-lM,<-qN,List.getElem?_take]at hu;split at hu
  ·rw[List.getElem?_drop]at hu;exact hu
  ·cases hu
theorem Kp.own(h:Kp w0 w K n c t){g:Nat}(e:(Value.slice K n c).ownBlock=some g):w0.heap.size<=g/\g<w.heap.size:=by
 cases K with
 | none=>cases e
 | some a=>
   obtain⟨b,o,s⟩:=a;rcases h.lies with ⟨h1,-⟩ | ⟨g',o',M,h1,h2,h3,-⟩
   ·cases h1
   ·cases h1;simp only[Value.ownBlock,aX]at e;subst e;exact⟨h2,h3.lt⟩
theorem Kp.keep(h:Kp w0 w K n c t)(hm:w.grownBy y (Value.slice K n c).ownBlock){p:Pk}{k:Hs}(hi:PkIn w w.heap.size p k):PkIn y y.heap.size p k:=by
 rcases h.lies with ⟨rfl,-⟩ | ⟨g,o,M,rfl,-,h3,-⟩
 ·exact hi.next ⟨hm.os,hm.tape,hm.output,hm.size,fun i hi=>hm.block i hi (by simp[Value.ownBlock])⟩
 ·exact hi.bytes h3 hm
theorem Kp.bk(h:Kp w0 w K n c t)(hm:w.grownBy y (Value.slice K n c).ownBlock){g:Nat}{ty:TypeId}{cs:Array Value}(hb:Bk w g ty cs)(hne:ty≠U8):Bk y g ty cs:=by
 refine(hm.block g hb.lt fun e=>?_).trans hb;rcases h.lies with ⟨rfl,-⟩ | ⟨g',o,M,rfl,-,h3,-⟩
 ·cases e
 ·simp only[Value.ownBlock,aX]at e;subst e;unfold Bk at hb h3;rw[hb]at h3;simp only[aX,fc]at h3;exact hne h3.2.1
theorem Kp.drop(h:Kp w0 w K n c t){k:Nat}(hk:k<=n):Kp w0 w (xt K n k 1) (n- k) (n- k) (t.drop k):=by
 refine⟨by rw[bU,h.len],ac _,?_⟩;rcases h.lies with ⟨rfl,rfl,rfl⟩ | ⟨g,o,M,rfl,h2,h3,h4,h5,h6⟩
 ·obtain rfl:k=0:=by omega
  exact .inl ⟨rfl,rfl,rfl⟩
 ·unfold xt;split
  ·rename_i e;subst e;refine .inr ⟨g,o,M,rfl,h2,h3,?_,by omega,.inl rfl⟩;rw[Nat.sub_self,GZ,gD (by rw[h.len];exact ac _)]
  ·refine .inr ⟨g,o+k,M,by simp[Addr.add],h2,h3,?_,by omega,.inl rfl⟩;rw[<-h4,List.drop_take,et]
end
theorem Bq{P:Program}(w:World)(t u ty e:TypeId)(i:TypeInfo)(ht:P.underlying t=some (.slice e))(hu:P.underlying u=some .string)(hi:P.info? e=some i)(A:Option Addr)(n c:Nat)(hn:n<=c)(s:ByteArray)(hs:s.size=0):
  (Builtin.append_ #[t,u] ty #[.slice A n c,.string s]).run P w= .ok (.slice A n c) w:=by
 have hz:s=⟨#[]⟩:=by
  apply ByteArray.ext;exact Array.eq_empty_of_size_eq_zero hs
 subst hz;have h0:(⟨#[]⟩:ByteArray).size=0:=rfl;simp[Builtin.append_,run_underlying ht,run_underlying hu,sizeOf,typeInfo,hi,Builtin.lenOf,Builtin.firstCells,hn,h0,storeCells];cases A<;>rfl
theorem Ey:(prog.info? U8).map (fun i=>(i.zero,i.size,i.bytes))=some (some (.int .u8 0),1,1):=by kernel_rfl
theorem Bp{w0 w:World}{K:Option Addr}{n c:Nat}{t:List UInt8}(hr:Kp w0 w K n c t)(h0:w0.heap.size<=w.heap.size)(ty:TypeId)(s:ByteArray)(hb:n+s.size<=1000000000000):
  ∃K' c' w',(Builtin.append_ #[80,9] ty #[.slice K n c,.string s]).run prog w= .ok (.slice K' (n+s.size) c') w'/\Kp w0 w' K' (n+s.size) c' (t++ls s)/\w.grownBy w' (Value.slice K n c).ownBlock:=by
 obtain⟨i,hi,hz,hsize,hby⟩:=o8 Ey;have ht:=underlying80;have hu:=underlying9;have hlen:(t++ls s).length=n+s.size:=by rw[List.length_append,hr.len,aN]
 by_cases hs:s.size=0
 ·have hl:ls s=[]:=aF (by rw[aN];exact hs);refine⟨K,c,w,?_,?_,jy w _⟩
  ·rw[Bq w _ _ ty _ i ht hu hi K n c hr.cap s hs,hs,jV]
  ·rw[hs,hl,cW,jV];exact hr
 have grown:∀(need old:Nat),need=n+s.size->old<need->Kp w0 (w.drew.alloc (.cells ((bys t).toArray++(Lib.strCells s).toArray++Builtin.zeroCells (Value.int .u8 0).cells (grownCap w need old U8- need)) U8)) (some ⟨w.heap.size,0,none⟩) need (grownCap w need old U8) (t++ls s)/\
   (∀row,w.grownBy (w.drew.alloc (.cells ((bys t).toArray++(Lib.strCells s).toArray++Builtin.zeroCells (Value.int .u8 0).cells (grownCap w need old U8- need)) U8)) row):=by
  intro need old hneed hold;have hge:=grownCap_ge w need old U8;have hcm:grownCap w need old U8<=maxLen:=grownCap_le_maxLen w need old U8 (by unfold maxLen;omega);refine⟨⟨by rw[hlen,hneed],hge,.inr ⟨w.heap.size,0,t++ls s++List.replicate (grownCap w need old U8- need) 0,rfl,h0,?_,?_,?_,.inr ⟨rfl,?_,hcm⟩⟩⟩,fun row=>⟨rfl,rfl,rfl,by simp,fun k hk _=>heap_alloc_old w.drew _ hk⟩⟩
  ·have:(bys t).toArray++(Lib.strCells s).toArray++Builtin.zeroCells (Value.int .u8 0).cells (grownCap w need old U8- need)=(bys (t++ls s++List.replicate (grownCap w need old U8- need) 0)).toArray:=by
    apply oz.1;rw[Array.toList_append,Array.toList_append,Dt,pG,pG,yN]
   rw[this];exact Bk.fresh w.drew _ _
  ·rw[cS,eW (by rw[hlen];omega),bt (by rw[hlen];omega)]
  ·rw[List.length_append,hlen,List.length_replicate];omega
  ·rw[List.length_append,hlen,List.length_replicate];omega
 have hfits:∀old,old<n+s.size->Builtin.nextslicecap (n+s.size) old*i.bytes<=281474976710656:=fun old ho=>growslice_fits ho (by rw[hby];omega);rcases hr.lies with ⟨rfl,rfl,rfl⟩ | ⟨g,o,M,rfl,h2,h3,h4,h5,h6⟩
 ·have hL:t=[]:=aF hr.len;subst hL;have hrun:=run_append_nil_string (P:=prog) w 80 9 ty U8 i (.int .u8 0) ht hu hi hz s (by omega) (by omega) (by rw[hby];omega);obtain⟨g1,g2⟩:=grown s.size 0 (by omega) (by omega);rw[show(bys []).toArray= #[]from rfl]at g1 g2;simp only[Array.empty_append]at g1 g2;rw[bV];refine⟨_,_,_,hrun.trans ?_,g1,g2 _⟩;have:s.data.map (fun b=>Value.int .u8 (b.toNat:Int))=(Lib.strCells s).toArray:=by
   apply oz.1;simp[Lib.strCells]
  rw[this]
 ·by_cases hroom:n+s.size<=c
  ·rcases h6 with h6| ⟨rfl,h7,h8⟩
   ·omega
   have hrun:=Lib.run_append_room_string (P:=prog) w 80 9 ty U8 i ht hu hi hsize g n c (bys M).toArray h3 s hroom (by rw[List.size_toArray,nu,h7];exact hroom);rw[cS]at h4;refine⟨some ⟨g,0,none⟩,c,_,hrun,⟨hlen,hroom,.inr ⟨g,0,M.take n++ls s++M.drop (n+s.size),rfl,h2,?_,?_,?_,.inr ⟨rfl,?_,h8⟩⟩⟩,⟨rfl,rfl,rfl,by simp,fun k _ hk=>setRow_other w g k _ (fun e=>hk (by simp[Value.ownBlock,e]))⟩⟩
   ·have:=setRow_heap w g (bys M).toArray ((bys M).take n++Lib.strCells s++(bys M).drop (n+s.size)).toArray U8 (0,0) h3;unfold Bk;rw[pG,pG,<-lM,<-qN,<-yN];exact this
   ·rw[cS,eW (by rw[List.length_append,cY,aN];omega),bt (by rw[List.length_append,cY,aN];omega),h4]
   ·rw[List.length_append,List.length_append,cY,bU,aN];omega
   ·rw[List.length_append,List.length_append,cY,bU,aN];omega
  ·have hrd:=hr.rd;have hol:∀j u,(bys t)[j]? =some u->w.cell? ((⟨g,o,none⟩:Addr).add j)=some u:=by
    intro j u hu;rw[Addr.add_lit,h3.cell,ay];rw[<-h4,<-lM,<-qN,List.getElem?_take]at hu;split at hu
    ·rw[List.getElem?_drop]at hu;exact hu
    ·cases hu
   have hrun:=Lib.run_append_grow_string (P:=prog) w 80 9 ty U8 i (.int .u8 0) ht hu hi hz ⟨g,o,none⟩ n c (bys t) (by rw[nu,hr.len,hsize,rB]) hol s (by omega) (by omega) (hfits c (by omega));obtain⟨g1,g2⟩:=grown (n+s.size) c rfl (by omega);exact⟨_,_,_,hrun,g1,g2 _⟩
section
variable {P:Program} {t e:TypeId} {s:Nat} (ht:P.underlying t=some (.slice e)) (hz:∀w,(sizeOf e).run P w= .ok s w)
include ht hz
theorem Bl(A:Option Addr)(n c k:Nat)(hk:k<=n)(hn:n<=c)(W:World):(Instr.slice t (.slice A n c) (some (.int .i64 (k:Int))) (some (.int .i64 (n:Int))) (some (.int .i64 (n:Int)))).run P W= .ok (.slice (xt A n k s) (n- k) (n- k)) W:=by
 have h0:(0:Int)<=(k:Int):=by omega
 have h1:(k:Int)<=(n:Int):=by omega
 have h2:(n:Int)<=(c:Int):=by omega
 have h3:(0:Int)<=(n:Int):=by omega
 simp[Instr.slice,run_underlying ht,Instr.sliceBounds,run_sliceBound,hz,xt,hk,hn]
end
end
def smZ(v:Int)(t:ByteArray):Nat×Int:=
 if(hdR v (t.extract 0 (min t.size 5))).2.2≠0 then(0,(hdR v (t.extract 0 (min t.size 5))).2.2)
 else((hdR v (t.extract 0 (min t.size 5))).2.1+(hdR v (t.extract 0 (min t.size 5))).1.n,0)
def smN(v most:Int)(t:ByteArray):Pk×Nat×Int:=
 if(smZ v t).2≠0 then(pk0,0,(smZ v t).2)
 else if most<((smZ v t).1:Nat)then(pk0,0,4)
 else if t.size<(smZ v t).1 then(pk0,0,3)
 else mqR v (t.extract 0 (smZ v t).1)
def smF(v most:Int):Nat->ByteArray->Nat->Nat->List Pk->List Pk×ByteArray×Nat×Nat×Int
 | 0,t,a,k,l=>(l,t,a,k,0)
 | f+1,t,a,k,l=>
   if(smN v most t).2.2=0 then smF v most f (t.extract (smN v most t).2.1 t.size) (a+(smN v most t).2.1) (k+1) (l++[(smN v most t).1])
   else if(smN v most t).2.2=3 then(l,t,a,k,0)
   else(l,⟨#[]⟩,a,k,(smN v most t).2.2)
theorem mU(v most:Int)(f:Nat)(t:ByteArray)(a k:Nat)(l:List Pk):smF v most (f+1) t a k l=
  if(smN v most t).2.2=0 then smF v most f (t.extract (smN v most t).2.1 t.size) (a+(smN v most t).2.1) (k+1) (l++[(smN v most t).1])
  else if(smN v most t).2.2=3 then(l,t,a,k,0)
  else(l,⟨#[]⟩,a,k,(smN v most t).2.2):=rfl
theorem jD{v most:Int}{t:ByteArray}(h:(smN v most t).2.2=0):2<=(smN v most t).2.1/\(smN v most t).2.1<=t.size:=by
 unfold smN at h⊢;split
 ·rename_i h1;rw[if_pos h1]at h;exact absurd h h1
 rename_i h1;rw[ae h1]at h
 split
 ·rename_i h2;rw[if_pos h2]at h;cases h
 rename_i h2;rw[ae h2]at h
 split
 ·rename_i h3;rw[if_pos h3]at h;cases h
 rename_i h3;rw[ae h3]at h
 obtain⟨a,b⟩:=Ch h;rw[aj]at b;omega
theorem Fn{v most:Int}{t:ByteArray}(ht:t.size<=1000000000000):PkOk (smN v most t).1:=by
 have hz:PkOk pk0:=PkOk.zero 0 0 0;unfold smN;split
 ·exact hz
 split
 ·exact hz
 split
 ·exact hz
 ·exact En (by rw[aj];omega)
section
def wF(k:Int):FuncId:=if k<=2 then 136 else if k=3 then 144 else if k<=7 then 138 else if k<=11 then 140 else 142
def rF(k:Int):FuncId:=if k<=2 then 137 else if k=3 then 145 else if k<=7 then 139 else if k<=11 then 141 else 143
def ns:List (Int×Value):=[(1,.agg #[.func (.func 136) #[] #[],.func (.func 137) #[] #[]]),(2,.agg #[.func (.func 136) #[] #[],.func (.func 137) #[] #[]]),(3,.agg #[.func (.func 144) #[] #[],.func (.func 145) #[] #[]]),(4,.agg #[.func (.func 138) #[] #[],.func (.func 139) #[] #[]]),(5,.agg #[.func (.func 138) #[] #[],.func (.func 139) #[] #[]]),(6,.agg #[.func (.func 138) #[] #[],.func (.func 139) #[] #[]]),(7,.agg #[.func (.func 138) #[] #[],.func (.func 139) #[] #[]]),(8,.agg #[.func (.func 140) #[] #[],.func (.func 141) #[] #[]]),(9,.agg #[.func (.func 140) #[] #[],.func (.func 141) #[] #[]]),(10,.agg #[.func (.func 140) #[] #[],.func (.func 141) #[] #[]]),(11,.agg #[.func (.func 140) #[] #[],.func (.func 141) #[] #[]]),(12,.agg #[.func (.func 142) #[] #[],.func (.func 143) #[] #[]]),(13,.agg #[.func (.func 142) #[] #[],.func (.func 143) #[] #[]]),(14,.agg #[.func (.func 142) #[] #[],.func (.func 143) #[] #[]]),(15,.agg #[.func (.func 142) #[] #[],.func (.func 143) #[] #[]])]
def Dr(k:Int):Bool:=decide (1<=k/\k<=15)
theorem EI{k:Int}(h:1<=k/\k<=15):k=1\/k=2\/k=3\/k=4\/k=5\/k=6\/k=7\/k=8\/k=9\/k=10\/k=11\/k=12\/k=13\/k=14\/k=15:=by omega
theorem Et(k:Int):∃a b,(ia ns k).getD (.agg #[.nilFunc,.nilFunc])= .agg #[a,b]/\(ia ns k).isSome=Dr k/\(Dr k=true->a=FC (wF k)/\b=FC (rF k))/\a.oneCell'=true/\b.oneCell'=true:=by
 by_cases h:1<=k/\k<=15
 ·have hi:Dr k=true:=au h;rcases EI h with rfl| rfl| rfl| rfl| rfl| rfl| rfl| rfl| rfl| rfl| rfl| rfl| rfl| rfl| rfl
  all_goals exact⟨_,_,rfl,hi.symm▸rfl,fun _=>⟨rfl,rfl⟩,rfl,rfl⟩
 ·have hi:Dr k=false:=ah h;have hn:ia ns k=none:=by
   unfold ia;rw[List.find?_eq_none.2]
   ·rfl
   ·intro q hq;simp only[ns,ie,List.not_mem_nil,or_false]at hq;intro e;have e1:=eq_of_beq e;rcases hq with rfl| rfl| rfl| rfl| rfl| rfl| rfl| rfl| rfl| rfl| rfl| rfl| rfl| rfl| rfl
    all_goals (simp only at e1;omega)
  rw[hn];exact⟨_,_,rfl,hi.symm▸rfl,fun x=>by(rw[hi]at x;cases x),rfl,rfl⟩
theorem CW{k:Int}(args:Array Value)(w:World):(callFunc (rF k) args).run prog w= .ok (.enter (rF k) args) w:=by
 unfold rF
 repeat' split
 ·exact dv func137 (by kernel_rfl) rfl args w
 ·exact dv func145 (by kernel_rfl) rfl args w
 ·exact dv func139 (by kernel_rfl) rfl args w
 ·exact dv func141 (by kernel_rfl) rfl args w
 ·exact dv func143 (by kernel_rfl) rfl args w
def DL(a v:Value):Sem Unit:=Instr.storeAt ChT a v
theorem xQ(a v:Value):Instr.storeAt ChT a v=DL a v:=rfl
theorem EA:(prog.info? ChT).map (·.size)=some 2:=by kernel_rfl
theorem Bj{w:World}{g:Nat}{x y:Value}(hb:Bk w g ChT #[x,y]){a b:Value}(ha:a.oneCell'=true)(hb':b.oneCell'=true):(DL (.pointer (some ⟨g,0,none⟩)) (.agg #[a,b])).run prog w= .ok () (w.setCells g 0 [a,b]):=by
 unfold DL;refine run_storeAt_mid w g 0 ChT #[a,b] ?_ EA (by simp[ha,hb']);intro j hj;rw[bV,hb.cell,hb.free];refine⟨?_,rfl⟩;rw[eL (show j< #[x,y].size from hj)];rfl
theorem j7(w:World){n:Nat}(hn:w.heap.size=n)(x y:Value){a b:Value}(ha:a.oneCell'=true)(hb:b.oneCell'=true):(DL (.pointer (some ⟨n,0,none⟩)) (.agg #[a,b])).run prog (w.alloc (.cells #[x,y] ChT))= .ok () (w.alloc (.cells #[a,b] ChT)):=by
 subst hn;rw[Bj (Bk.fresh w ChT #[x,y]) ha hb,io];rfl
attribute [local go_sem ↓] xQ
structure ChK (W:World) (g:Nat):Prop where
 b0:Bk W (g+0) ChT #[.func (.func 136) #[] #[],.func (.func 137) #[] #[]]
 b1:Bk W (g+1) ChT #[.func (.func 138) #[] #[],.func (.func 139) #[] #[]]
 b2:Bk W (g+2) ChT #[.func (.func 140) #[] #[],.func (.func 141) #[] #[]]
 b3:Bk W (g+3) ChT #[.func (.func 142) #[] #[],.func (.func 143) #[] #[]]
theorem ChK.next{W w1:World}{g:Nat}(h:ChK W g)(hg:W.grownBy w1 (some (g+4))):ChK w1 g:=
 ⟨h.b0.mods (S:=fun z=>z=g+4) (Mods.of_grown hg rfl) (by omega),h.b1.mods (S:=fun z=>z=g+4) (Mods.of_grown hg rfl) (by omega),h.b2.mods (S:=fun z=>z=g+4) (Mods.of_grown hg rfl) (by omega),h.b3.mods (S:=fun z=>z=g+4) (Mods.of_grown hg rfl) (by omega)⟩
theorem ChK.cells{W:World}{g:Nat}(h:ChK W g):W.cell? ⟨g,0,none⟩=some (.func (.func 136) #[] #[])/\W.cell? ⟨g,1,none⟩=some (.func (.func 137) #[] #[])/\W.cell? ⟨g+1,0,none⟩=some (.func (.func 138) #[] #[])/\W.cell? ⟨g+1,1,none⟩=some (.func (.func 139) #[] #[])/\W.cell? ⟨g+2,0,none⟩=some (.func (.func 140) #[] #[])/\W.cell? ⟨g+2,1,none⟩=some (.func (.func 141) #[] #[])/\W.cell? ⟨g+3,0,none⟩=some (.func (.func 142) #[] #[])/\W.cell? ⟨g+3,1,none⟩=some (.func (.func 143) #[] #[]):=
 ⟨h.b0.cell 0,h.b0.cell 1,h.b1.cell 0,h.b1.cell 1,h.b2.cell 0,h.b2.cell 1,h.b3.cell 0,h.b3.cell 1⟩
theorem tC(w:World):Calls prog 89 #[] w fun e w'=>∃r,e= .returned (.map (some r))/\fQ .i64 w' r ns/\Below w.heap.size w w':=by
 have hmm:=@run_makeMap prog;obtain⟨W4,hW4⟩:∃W4,((((w.alloc (.cells #[.func (.func 136) #[] #[],.func (.func 137) #[] #[]] ChT)).alloc (.cells #[.func (.func 138) #[] #[],.func (.func 139) #[] #[]] ChT)).alloc (.cells #[.func (.func 140) #[] #[],.func (.func 141) #[] #[]] ChT)).alloc (.cells #[.func (.func 142) #[] #[],.func (.func 143) #[] #[]] ChT))=W4:=⟨_,rfl⟩;have hs4:W4.heap.size=w.heap.size+4:=by rw[<-hW4];simp
 have HB:Hid (Below w.heap.size w (W4.alloc (.map #[] 0))):=aa (by
  rw[<-hW4];exact(((((aq w.heap.size w).alloc (ac _) _).alloc (by simp) _).alloc (by simp;omega) _).alloc (by simp;omega) _).alloc (by simp;omega) _)
 have HT:Hid (fQ .i64 (W4.alloc (.map #[] 0)) (w.heap.size+4) []):=aa (by rw[<-hs4];exact fQ.made W4 .i64);have HKK:Hid (ChK (W4.alloc (.map #[] 0)) w.heap.size):=aa (by
  rw[<-hW4];have e1:(w.alloc (.cells #[.func (.func 136) #[] #[],.func (.func 137) #[] #[]] ChT)).heap.size=w.heap.size+1:=by simp
  have e2:((w.alloc (.cells #[.func (.func 136) #[] #[],.func (.func 137) #[] #[]] ChT)).alloc (.cells #[.func (.func 138) #[] #[],.func (.func 139) #[] #[]] ChT)).heap.size=w.heap.size+2:=by simp
  have e3:(((w.alloc (.cells #[.func (.func 136) #[] #[],.func (.func 137) #[] #[]] ChT)).alloc (.cells #[.func (.func 138) #[] #[],.func (.func 139) #[] #[]] ChT)).alloc (.cells #[.func (.func 140) #[] #[],.func (.func 141) #[] #[]] ChT)).heap.size=w.heap.size+3:=by simp
  refine⟨((((Bk.fresh w ChT _).alloc _).alloc _).alloc _).alloc _,?_,?_,?_⟩
  ·rw[<-e1];exact(((Bk.fresh _ ChT _).alloc _).alloc _).alloc _
  ·rw[<-e2];exact((Bk.fresh _ ChT _).alloc _).alloc _
  ·rw[<-e3];exact(Bk.fresh _ ChT _).alloc _)
 obtain⟨c0,c1,c2,c3,c4,c5,c6,c7⟩:=HKK.o.cells;rw[<-hW4]at c0 c1 c2 c3 c4 c5 c6 c7 HB HT HKK;clear hW4 hs4;clear W4;have st0:=j7 w (n:=w.heap.size) (by simp) .nilFunc .nilFunc (a:=.func (.func 136) #[] #[]) (b:=.func (.func 137) #[] #[]) rfl rfl;have st1:=j7 (w.alloc (.cells #[.func (.func 136) #[] #[],.func (.func 137) #[] #[]] ChT)) (n:=w.heap.size+1) (by simp) .nilFunc .nilFunc (a:=.func (.func 138) #[] #[]) (b:=.func (.func 139) #[] #[]) rfl rfl;have st2:=j7 ((w.alloc (.cells #[.func (.func 136) #[] #[],.func (.func 137) #[] #[]] ChT)).alloc (.cells #[.func (.func 138) #[] #[],.func (.func 139) #[] #[]] ChT)) (n:=w.heap.size+2) (by simp) .nilFunc .nilFunc (a:=.func (.func 140) #[] #[]) (b:=.func (.func 141) #[] #[]) rfl rfl;have st3:=j7 (((w.alloc (.cells #[.func (.func 136) #[] #[],.func (.func 137) #[] #[]] ChT)).alloc (.cells #[.func (.func 138) #[] #[],.func (.func 139) #[] #[]] ChT)).alloc (.cells #[.func (.func 140) #[] #[],.func (.func 141) #[] #[]] ChT)) (n:=w.heap.size+3) (by simp) .nilFunc .nilFunc (a:=.func (.func 142) #[] #[]) (b:=.func (.func 143) #[] #[]) rfl rfl;go_enter func89,ntmps89
 go_wp2_with (refine lc _ rfl _ _ _ 121 rfl 3 ChT (by kernel_rfl) (by kernel_rfl) (w.heap.size+4) _ rfl HT.o _ _ rfl rfl rfl ?_;intro w1 hT hg;have hb:=HB.o.grown hg (HB.o.size) (fun k hk=>by cases hk;exact iX _ _);have hk:=HKK.o.next hg;clear HT HB hg HKK c0 c1 c2 c3 c4 c5 c6 c7;have HT:=aa hT;have HB:=aa hb;have HKK:=aa hk;obtain⟨c0,c1,c2,c3,c4,c5,c6,c7⟩:=hk.cells;clear hT hb hk)
 go_ret;exact⟨_,rfl,HT.o,HB.o⟩
end
section
attribute [local go_sem ↓] bD bF bH bI bu
attribute [local go_sem] bc aD bh bg bK bJ bd aY be aO ax cI dC dB dt dj di dA dr dp dn bW co bO bZ bX cz cy cw cu ct cC cn bS bP bR
attribute [local go_sem ↓] xT xR xQ
attribute [local go_sem] un ul
theorem Fj(v:Int)(x:Hdr)(s:ByteArray)(w:World)(hs:s.size<=1000000000000):Calls prog (rF x.k) #[wrV v x s] w (lQ (chR v x s) w):=by
 unfold rF chR;split
 ·exact rb v x s w hs
 split
 ·exact qY v x s w hs
 split
 ·exact yV v x s w hs
 split
 ·exact oX v x s w hs
 ·exact qZ v x s w hs
theorem El{w:World}{r:Nat}(h:fQ .i64 w r ns)(k:Int){a b:Value}{is:Bool}(h1:(ia ns k).getD (.agg #[.nilFunc,.nilFunc])= .agg #[a,b])(h2:(ia ns k).isSome=is):
  (Instr.lookup 121 (.map (some r)) (.int .i64 k) true).run prog w= .ok (.tuple #[.agg #[a,b],.bool is]) w/\(Instr.lookup 121 (.map (some r)) (.int .i64 k) false).run prog w= .ok (.agg #[a,b]) w:=by
 have hl:=nY (P:=prog) (t:=121) (k:=3) (e:=ChT) (z:=.agg #[.nilFunc,.nilFunc]) (by kernel_rfl) (by kernel_rfl) (by kernel_rfl) h k;rw[h1,h2]at hl;exact⟨hl.2,hl.1⟩
end
section
attribute [local go_sem ↓] bD bF bH bI bu
attribute [local go_sem] bc aD bh bg bK bJ bd aY be aO ax cI dC dB dt dj di dA dr dp dn bW co bO bZ bX cz cy cw cu ct cC cn bS bP bR
def Gp(v:Array (Nat×Value)):Sem Value:=Instr.build WrT v
theorem DI(v:Array (Nat×Value)):Instr.build WrT v=Gp v:=rfl
theorem Bm(v k f:Int)(n:Nat)(t:ByteArray)(w:World):(Gp #[(0,.int .i64 v),(1,.agg #[.int .i64 k,.int .i64 f,.int .i64 n]),(2,.string t)]).run prog w= .ok (wrV v ⟨k,f,n⟩ t) w:=by kernel_rfl
theorem DT(a b:FuncId)(w:World):(Instr.field ChT (.agg #[.func (.func a) #[] #[],.func (.func b) #[] #[]]) 1).run prog w= .ok (.func (.func b) #[] #[]) w:=by kernel_rfl
attribute [local go_sem ↓] DI DT
attribute [local go_sem] Bm
theorem eZ{fn:Func}{p u u':Tmp}(hr:fn.results= #[.cell p PkT,.tmp u,.tmp u'])(tmps:Array Value){w:World}{g:Nat}{q:Pk}{h:Hs}(hp:tmps.getD p undef= .pointer (some ⟨g,0,none⟩))(hb:Bk w g PkT (pkC q h)):
  (results fn tmps).run prog w= .ok (.tuple #[pkV q h,tmps.getD u undef,tmps.getD u' undef]) w:=by
 rw[ml hr,hp];have hl:=Cn hb;generalize pkV q h=V at hl⊢;exact kG _ (⟨g,0,none⟩:Addr) w _ rfl |>.trans (kG _ V w _ hl)
def tM(r:Pk×Nat×Int)(w:World)(e:Ending)(w':World):Prop:=∃h,e= .returned (.tuple #[pkV r.1 h,.int .i64 (r.2.1:Nat),.int .i64 r.2.2])/\PkIn w' w'.heap.size r.1 h/\Below w.heap.size w w'/\ja w r.1 h
theorem gR{r:Pk×Nat×Int}{x:Int}{w w':World}(h:r=(pk0,0,x))(hb:Below w.heap.size w w'):tM r w (.returned (.tuple #[pkV pk0 hs0,.int .i64 0,.int .i64 x])) w':=by
 subst h;exact⟨hs0,rfl,wM _ _,hb,.inl rfl⟩
theorem zF{r:Pk×Nat×Int}{p:Pk}{n:Nat}{h:Hs}{w w':World}(hr:r=(p,n,0))(hi:PkIn w' w'.heap.size p h)(hb:Below w.heap.size w w')(hf:ja w p h):tM r w (.returned (.tuple #[pkV p h,.int .i64 n,.int .i64 0])) w':=by
 subst hr;exact⟨h,rfl,hi,hb,hf⟩
theorem wS(v:Int)(s:ByteArray)(w:World)(hs:s.size<=1000000000000):Calls prog 25 #[.int .i64 v,.string s] w (tM (mqR v s) w):=by
 have HE:Hid (mqR v s=if(hdR v s).2.2≠0 then(pk0,0,(hdR v s).2.2)
  else if s.size<(hdR v s).2.1+(hdR v s).1.n then(pk0,0,3)
  else if(chR v (hdR v s).1 (s.extract (hdR v s).2.1 ((hdR v s).2.1+(hdR v s).1.n))).2=0 then((chR v (hdR v s).1 (s.extract (hdR v s).2.1 ((hdR v s).2.1+(hdR v s).1.n))).1,(hdR v s).2.1+(hdR v s).1.n,0)
  else(pk0,0,if(chR v (hdR v s).1 (s.extract (hdR v s).2.1 ((hdR v s).2.1+(hdR v s).1.n))).2=3 then 5 else(chR v (hdR v s).1 (s.extract (hdR v s).2.1 ((hdR v s).2.1+(hdR v s).1.n))).2)):=aa rfl
 have HS:=aa hs;have HB:=aa ((aq w.heap.size w).alloc (ac _) (.cells (pkC pk0 hs0) PkT));have HK:=aa (Bk.fresh w PkT (pkC pk0 hs0));have HHD:=aa (fun W=>qy v s W (by omega));have HBK:Hid ((hdR v s).2.2=0->dS v (hdR v s).1.k=true/\(hdR v s).1.n<=268435455/\(hdR v s).2.1<=s.size):=aa (fun h0=>by
  obtain⟨b1,b2,b3,b4,b5⟩:=kw (v:=v) (s:=s) (h:=(hdR v s).1) (a:=(hdR v s).2.1) (by rw[<-h0]);exact⟨(nf.1 b1).2.1,b2,b5⟩)
 clear hs;obtain⟨⟨⟨k,f,n⟩,a,x⟩,hr⟩:∃r,hdR v s=r:=⟨_,rfl⟩;rw[hr]at HE HHD HBK;simp only[Cx]at HE HHD HBK;clear hr;go_enter func25,ntmps25
 go_wp2_with fail
 refine(HHD.o _).mono ?_;rintro e w1 ⟨rfl,hb⟩;have HB1:=aa (HB.o.trans (hb.mono HB.o.size));have HK1:=aa (HK.o.below hb HK.o.lt);clear hb HHD HB HK;obtain⟨y,hy⟩:∃y,w1.alloc (.cells #[.int .i64 k,.int .i64 f,.int .i64 n] 112)=y:=⟨_,rfl⟩;have HB2:Hid (Below w.heap.size w y):=aa (by rw[<-hy];exact HB1.o.alloc HB1.o.size _);have HK2:Hid (Bk y w.heap.size PkT (pkC pk0 hs0)):=aa (by rw[<-hy];exact HK1.o.alloc _);obtain⟨gh,hgh⟩:∃gh,w1.heap.size=gh:=⟨_,rfl⟩;have HH:Hid (Bk y gh 112 #[.int .i64 k,.int .i64 f,.int .i64 n]):=aa (by rw[<-hy,<-hgh];exact Bk.fresh w1 _ _)
 go_upto_region 2 with fail
 have HGH:Hid (w.heap.size<gh):=aa (by rw[<-hgh];exact HK1.o.lt);clear hy hgh HB1 HK1;clear w1;have hst:=aW HK2.o pk0 hs0;have HBD:Hid (Below w.heap.size w (dE y w.heap.size pk0 hs0)):=aa (bT HB2.o HB2.o.size (ac _) pk0 hs0);have HKP:=aa (cO HK2.o pk0 hs0)
 by_cases hx:x=0
 rotate_left
 ·have HX:Hid (mqR v s=(pk0,0,x)):=aa (by rw[HE.o,if_pos hx]);have e0:(x !=0)=true:=aA.2 hx;clear hx;go_wp2;refine av (eZ rfl _ rfl HKP.o) rfl ?_;exact gR HX.o HBD.o
 obtain⟨b1,b2,b3⟩:=HBK.o hx;have HKD:=aa b1;have HE1:Hid (mqR v s=if s.size<a+n then(pk0,0,3)else if(chR v ⟨k,f,n⟩ (s.extract a (a+n))).2=0 then((chR v ⟨k,f,n⟩ (s.extract a (a+n))).1,a+n,0)
  else(pk0,0,if(chR v ⟨k,f,n⟩ (s.extract a (a+n))).2=3 then 5 else(chR v ⟨k,f,n⟩ (s.extract a (a+n))).2)):=aa (by rw[HE.o,ae (fun z=>z hx)])
 subst hx;have HN:=aa b2;have HA:=aa b3
 have hsz:=HS.o;have c0:=HH.o.cell 0;have c1:=HH.o.cell 1;have c2:=HH.o.cell 2
 simp only[ay,aE,aB]at c0 c1 c2;clear HE HBK b1
 by_cases hlt:s.size<a+n
 ·have HX:Hid (mqR v s=(pk0,0,3)):=aa (by rw[HE1.o,if_pos hlt]);have d1:(s.size:Int) - (a:Int)<(n:Int):=by omega
  have d2: -9223372036854775808<=(s.size:Int) - (a:Int):=by omega
  have d3:(s.size:Int) - (a:Int)<=9223372036854775807:=by omega
  clear hlt;go_wp2;refine av (eZ rfl _ rfl HKP.o) rfl ?_;exact gR HX.o HBD.o
 have HE2:Hid (mqR v s=if(chR v ⟨k,f,n⟩ (s.extract a (a+n))).2=0 then((chR v ⟨k,f,n⟩ (s.extract a (a+n))).1,a+n,0)
  else(pk0,0,if(chR v ⟨k,f,n⟩ (s.extract a (a+n))).2=3 then 5 else(chR v ⟨k,f,n⟩ (s.extract a (a+n))).2)):=aa (by rw[HE1.o,ae hlt])
 have d1:(n:Int)<=(s.size:Int) - (a:Int):=by omega
 have HEND:Hid (a+n<=s.size):=aa (by omega);have d2: -9223372036854775808<=(s.size:Int) - (a:Int):=by omega
 have d3:(s.size:Int) - (a:Int)<=9223372036854775807:=by omega
 have hsu:wrap64 ((s.size:Int) - (a:Int))=(s.size:Int) - (a:Int):=by unfold wrap64;omega
 have had:wrap64 ((a:Int)+(n:Int))=((a+n:Nat):Int):=by unfold wrap64;omega
 have dle:decide ((s.size:Int) - (a:Int)<(n:Int))=false:=ah (by omega);have v1:(0:Int)<=(a:Int):=by omega
 have v2:(a:Int)<=((a+n:Nat):Int):=by omega
 have v3:((a+n:Nat):Int)<=(s.size:Int):=by omega
 clear hlt HE1
 go_upto_region 7 with fail
 obtain⟨q,hq⟩:∃q,a+n=q:=⟨_,rfl⟩;rw[show(a:Int)+(n:Int)=(q:Int) by omega];rw[hq]at HE2 HEND v2 v3;clear d1 d2 d3 hsu had dle hsz hst hq;obtain⟨T,hT⟩:∃T,s.extract a q=T:=⟨_,rfl⟩;rw[hT]at HE2;have HTS:Hid (T.size<=1000000000000):=aa (by rw[<-hT,aj];have:=HS.o;omega);have HWR:=aa (fun W=>Fj v ⟨k,f,n⟩ T W HTS.o);obtain⟨R,hR⟩:∃R,chR v ⟨k,f,n⟩ T=R:=⟨_,rfl⟩;rw[hR]at HE2 HWR;obtain⟨ca,cb,hl1,hl2,hl3,hl4,hl5⟩:=Et k;have hin:Dr k=true:=by
  have:=aR (show decide (1<=k/\(k<=14\/(k=15/\v=5)))=true from HKD.o);exact au (by omega)
 obtain⟨rfl,rfl⟩:=hl3 hin;have HLK:=aa (fun(W:World) (r:Nat) (hT:fQ .i64 W r ns)=>(El hT k hl1 hl2).2);have en:=fun args W=>CW (k:=k) args W;simp only[FC]at HLK;clear hl1 hl2 hl3 hl4 hl5 hin hR;generalize rF k=RF at*
 go_cut [6] (fun z wx=>∃hh,z= .int .i64 R.2/\Bk wx w.heap.size PkT (pkC R.1 hh)/\PkIn wx wx.heap.size R.1 hh/\Below w.heap.size w wx/\ja y R.1 hh)
 case first=>
  go_region_law ((first| (go_simp;go_at_call 89;refine(tC y.drew).mono ?_;rintro e w2 ⟨r,rfl,hMT,hb⟩;have hlk:=HLK.o w2 r hMT;have hB:Below y.heap.size y w2:=(aV (aq y.heap.size y) 1).trans hb;have hH2:=HH.o.below hB HH.o.lt;have hK2:=HK2.o.below hB HK2.o.lt;have k0:=hH2.cell 0;have k1:=hH2.cell 1;have k2:=hH2.cell 2;(simp only[ay,aE,aB]at k0 k1 k2)) | (go_simp;refine(HWR.o _).mono ?_;rintro e w3 ⟨hh,rfl,hi3,hb3,hf3⟩;have hK3:=hK2.below hb3 hK2.lt;have hst3:=aW hK3 R.1 hh)))
  all_goals
   go_wp2
   go_meet
   case rel=>
    have hB3:Below w.heap.size w w3:=HB2.o.trans ((hB.trans (hb3.mono hB.size)).mono HB2.o.size);exact⟨hh,rfl,cO hK3 R.1 hh,hi3.put hK3 (cJ _ _ _ _) hf3 (ch HK2.o.lt hB.size),bT hB3 hB3.size (ac _) R.1 hh,hf3.mono hB.size⟩
 obtain⟨hh,rfl,hkx,hix,hbx,hfx⟩:=hcut;obtain⟨wx,hwx⟩:∃x,x=wc:=⟨_,rfl⟩;subst hwx;have KX:=aa hkx;have IX:=aa hix;have BX:=aa hbx;have FX:=aa hfx
 have lX:=cf hkx;have HYL:=aa HK2.o.lt;have hsX:=aW hkx R.1 hh;have hsZ:=aW hkx pk0 hs0;clear hkx hix hbx hfx c0 c1 c2 en HLK HWR HH HK2 HB2 HBD HKP v1 v2 v3 b2 b3;obtain⟨P,E⟩:=R;dsimp only at HE2 KX IX BX FX lX hsX hsZ⊢
 by_cases hE:E=0
 ·have HX:Hid (mqR v s=(P,q,0)):=aa (by rw[HE2.o,if_pos hE]);subst hE;go_wp2;refine av (eZ rfl _ rfl (cO KX.o P hh)) rfl ?_;exact zF HX.o (IX.o.put KX.o (cJ _ _ _ _) FX.o HYL.o) (bT BX.o BX.o.size (ac _) _ _) (FX.o.mono (pf HYL.o))
 ·have HX0:Hid (mqR v s=(pk0,0,if E=3 then 5 else E)):=aa (by rw[HE2.o,ae hE]);have e0:(E==0)=false:=ar.2 hE;have hb:Below w.heap.size w (dE wx w.heap.size pk0 hs0):=bT BX.o BX.o.size (ac _) _ _;have hk:=cO KX.o pk0 hs0;have HBX:=aa hb;have HKX:=aa hk
  clear hb hk
  by_cases h3:E=3
  ·have HX:Hid (mqR v s=(pk0,0,5)):=aa (by rw[HX0.o,if_pos h3]);have e3:(E==3)=true:=aK.2 h3;clear h3 hE;go_wp2;refine av (eZ rfl _ rfl HKX.o) rfl ?_;exact gR HX.o HBX.o
  ·have HX:Hid (mqR v s=(pk0,0,E)):=aa (by rw[HX0.o,ae h3]);have e3:(E==3)=false:=ar.2 h3;clear h3 hE;go_wp2;refine av (eZ rfl _ rfl HKX.o) rfl ?_;exact gR HX.o HBX.o
end
end Go.Proofs.YtbdgkkmbnahgiaaGreatDoor
