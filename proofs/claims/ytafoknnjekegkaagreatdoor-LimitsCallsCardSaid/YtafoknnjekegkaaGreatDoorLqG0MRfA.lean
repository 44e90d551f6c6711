/- Parts: MRfA. -/
import Derived.Test.YtafoknnjekegkaaGreatDoorLqG0MPubB
set_option maxRecDepth 10000
set_option maxHeartbeats 8000000
namespace Go.Proofs.YtafoknnjekegkaaGreatDoor
open Go.RowKit Go.Proofs.Tryz
variable {w:abP}{g a n:Nat}{t:abO}{e id:Int}{cs:Array Value}
theorem LG(n:Nat):(eP n).length=if n<128 then 1 else if n<16384 then 2 else if n<2097152 then 3 else 4:=by
 unfold eP;by_cases a:n<128
 ·simp[ig,a]
 ·rw[Fl a];by_cases c:n<16384
  ·have:n/ 128<128:=by omega
   simp[ig,a,c,this]
  ·rw[Fl c];have b:¬n/ 128<128:=by omega
   by_cases d:n<2097152
   ·have:n/ 128/ 128<128:=by omega
    simp[ig,a,b,d,this]
   ·have:¬n/ 128/ 128<128:=by omega
    simp[ig,a,b,d,this]
theorem LH(f n:Nat):1<=(ig f n).length:=by
 cases f with
 | zero=>simp[ig]
 | succ f=>unfold ig;split<;>simp
theorem Lu(n:Nat)(w:abP)(hn:n<=268435455):
  abT 134 #[.int .i64 n] w (.int .i64 ((eP n).length:Nat)):=by
 have d:=aa (LG n);have h:decide ((n:Int)<0)=false:=ah (by omega);have i:decide ((268435455:Int)<(n:Int))=false:=ah (by omega);clear hn;by_cases a:n<128
 ·have b:Hid ((eP n).length=1):=aa (by rw[d.o,if_pos a]);have b1:decide ((n:Int)<128)=true:=au (by omega);clear a;go_enter func134,ntmps134;go_wp2;go_ret;exact⟨by rw[b.o];rfl,rfl⟩
 ·have b1:decide ((n:Int)<128)=false:=ah (by omega);by_cases c:n<16384
  ·have b:Hid ((eP n).length=2):=aa (by rw[d.o,Fl a,if_pos c]);have b2:decide ((n:Int)<16384)=true:=au (by omega);clear a c;go_enter func134,ntmps134;go_wp2;go_ret;exact⟨by rw[b.o];rfl,rfl⟩
  ·have b2:decide ((n:Int)<16384)=false:=ah (by omega);by_cases f:n<2097152
   ·have b:Hid ((eP n).length=3):=aa (by rw[d.o,Fl a,Fl c,if_pos f]);have g:decide ((n:Int)<2097152)=true:=au (by omega);clear a c f;go_enter func134,ntmps134;go_wp2;go_ret;exact⟨by rw[b.o];rfl,rfl⟩
   ·have b:Hid ((eP n).length=4):=aa (by rw[d.o,Fl a,Fl c,Fl f]);have g:decide ((n:Int)<2097152)=false:=ah (by omega);clear a c f;go_enter func134,ntmps134;go_wp2;go_ret;exact⟨by rw[b.o];rfl,rfl⟩
theorem IB(n:Nat)(w:abP)(hn:n<=268435455):
  abR 86 #[.int .i64 n] w (.tuple #[.string ⟨(eP n).toArray⟩,.int .i64 0]):=by
 have Y:=aa hn;clear hn;have Q:=LH 3 n;have ac:=mO 3 n;obtain⟨j,F⟩:∃j,(eP n).length=j:=⟨_,rfl⟩;have I:=aa F;rw[show ig 3 n=eP n from rfl,F]at Q ac;clear F;have e0:((j:Int)==0)=false:=ar.2 (by omega);go_enter func86,ntmps86;go_wp2_with fail;refine(Lu n _ Y.o).mono ?_;rintro e w1 ⟨rfl,rfl⟩;rw[I.o];go_wp2
 go_loopw [0,5,6] (λv o i wr=>∃(m f k:Nat) (a:List UInt8),k<=j/\i= .int .i64 k/\v= .int .i64 m/\a.length=k/\(k<j->k+f=3/\m<128^ (f+1)/\eP n=a++ig f m)/\(k=j->eP n=a)/\wr.ownsRow w.heap.size 5 1 o a.length (bys a)/\abQ w wr) (λ_ _ i _=>j- (intOf i).toNat)
 case atStart=>exact⟨n,3,0,[],by omega,rfl,rfl,rfl,λ_=>⟨rfl,by have:=Y.o;simp;omega,rfl⟩,λh=>by omega,dD _ _ _ _,aq _ _⟩
 case round=>
  obtain⟨m,f,k,a,hk,rfl,rfl,L,K,J,E,q⟩:=hrel;have z:=aa L;have X:=aa K;have W:=aa J;have l:=aa E
  clear L K J E;by_cases ad:k<j
  ·obtain⟨Z,h2,N⟩:=X.o ad;have hm:m<268435456:=by
    have:128^ (f+1)<=128^ 4:=df (by omega) (by omega);have h4:(128:Nat) ^ 4=268435456:=by decide
    omega
   have ap:(0:Int)<=(m:Int):=by omega
   have c:j=k+(ig f m).length:=by rw[<-I.o,N,List.length_append,z.o]
   have T:=aa Z;have U:=aa h2;have V:=aa N
   have H:=aa hm;clear Z h2 N hm;have ao:a.length<=3:=by have:=z.o;have:=T.o;omega
   have an:=q.size;by_cases G:128<=m
   ·obtain⟨s,rfl⟩:∃s,f=s+1:=by
     refine⟨f- 1,?_⟩;rcases dh f with rfl| h
     ·have:=U.o;simp at this;omega
     ·omega
    have p:ig (s+1) m=UInt8.ofNat (m% 128+128) :: ig s (m/ 128):=by rw[ig,Fl (by omega)]
    have hp:=LH s (m/ 128);rw[p,bM]at c;obtain⟨b,y⟩:∃b,b=UInt8.ofNat (m% 128+128):=⟨_,rfl⟩;have t:(b.toNat:Int)=(m:Int) % 128+128:=by rw[y,UInt8.toNat_ofNat'];omega
    have af:IntKind.u8.wrap ((m:Int) % 128)=(m:Int) % 128:=by rw[GM];omega
    have au:IntKind.u8.wrap ((m:Int) % 128+128)=(b.toNat:Int):=by rw[t,GM];omega
    have d1:(k:Int)+1<(j:Int):=by omega
    have D:Hid (eP n=(a++[b])++ig s (m/ 128)):=aa (by rw[V.o,p,y];simp);have HM:Hid (m/ 128<128^ (s+1)):=aa (by
     have:=U.o;rw[Nat.pow_succ]at this;exact iJ (by rw[eV];exact this))
    have B:=aa c;clear p y t c hp;go_wp2_with (at_builtin;refine kF _ rfl (.tmp 28) (.tmp 30) 139 rfl w.heap.size 5 (.int .u8 0) 1 1 underlying139 ku rfl (by decide) u5 _ _ rfl (l.o.alloc _) _ _ 1 1 (bys [b]) rfl (Rd.lit _ _ _ rfl (ed _) rfl) (tG _) (by unfold maxLen;omega) (by omega) (by simp;omega) ?_;intro R S d u x);have r:=kz (q.alloc (by omega) _) u (by simp;omega) (λg O=>(cX l.o g O).1);have C:Hid (S.ownsRow w.heap.size 5 1 R (a++[b]).length (bys (a++[b]))):=aa (by simpa [bys]using d);clear d u x;go_wp2;go_roundw
    case rel=>
     exact⟨m/ 128,s,k+1,a++[b],by omega,by go_num,congrArg (Value.int .i64) (by have:=H.o;unfold wrap64;omega),by rw[List.length_append,z.o];rfl,λ_=>⟨by have:=T.o;omega,HM.o,D.o⟩,λh=>by omega,C.o,r⟩
    case measure=>simp[intOf];omega
   ·have p:ig f m=[UInt8.ofNat m]:=by
     cases f with
     | zero=>rfl
     | succ f=>rw[ig,if_pos (by omega)]
    rw[p]at c;simp at c;obtain⟨b,y⟩:∃b,b=UInt8.ofNat m:=⟨_,rfl⟩;have t:(b.toNat:Int)=(m:Int) % 128:=by rw[y,UInt8.toNat_ofNat'];omega
    have af:IntKind.u8.wrap ((m:Int) % 128)=(b.toNat:Int):=by rw[t,GM];omega
    have am:Hid (m<128):=aa (by omega);have d1:(j:Int)<=(k:Int)+1:=by omega
    have D:Hid (eP n=a++[b]):=aa (by rw[V.o,p,y]);have B:=aa c;clear p y t c G;go_wp2_with (at_builtin;refine kF _ rfl (.tmp 28) (.tmp 30) 139 rfl w.heap.size 5 (.int .u8 0) 1 1 underlying139 ku rfl (by decide) u5 _ _ rfl (l.o.alloc _) _ _ 1 1 (bys [b]) rfl (Rd.lit _ _ _ rfl (ed _) rfl) (tG _) (by unfold maxLen;omega) (by omega) (by simp;omega) ?_;intro R S d u x);have r:=kz (q.alloc (by omega) _) u (by simp;omega) (λg O=>(cX l.o g O).1);have C:Hid (S.ownsRow w.heap.size 5 1 R (a++[b]).length (bys (a++[b]))):=aa (by simpa [bys]using d);clear d u x;go_wp2;go_roundw
    case rel=>
     exact⟨m/ 128,f,k+1,a++[b],by omega,by go_num,congrArg (Value.int .i64) (by have:=H.o;unfold wrap64;omega),by rw[List.length_append,z.o];rfl,λh=>by have:=B.o;omega,λ_=>D.o,C.o,r⟩
    case measure=>simp[intOf];omega
  ·obtain rfl:k=j:=by omega
   have D:=aa (W.o rfl);obtain⟨A,cp,rfl,_,M⟩:=jK l.o;have ag:=ni (P:=prog) 139 9 5 underlying139 underlying5 underlying9 cp M;clear M;go_wp2;go_ret2;exact⟨by rw[D.o];rfl,q⟩
theorem Np{k m:Nat}(hm:m+1<=k)(hk:k<=8):bys ((Yk n k).take (k- m))=bys ((Yk n k).take (k- (m+1)))++[.int .u8 ((n:Int) / 2^ (8*m) % 256)]:=by
 have e:k- m=(k- (m+1))+1:=by omega
 have b:k- (m+1)<(Yk n k).length:=by rw[fM];omega
 rw[e,fE b,bys,Ii];have a:(Yk n k)[k- (m+1)]=UInt8.ofNat (n/ 2^ (8*m)):=by
  simp only[Yk,List.getElem_map,List.getElem_range];rw[if_pos (by omega),show k- 1- (k- (m+1))=m by omega]
 rw[a];simp[bys,UInt8.toNat_ofNat']
theorem GV(n k:Nat)(w:abP)(hn:n<18446744073709551616)(hk:0<k)(hk8:k<=8):
  abR 87 #[.int .u64 n,.int .i64 k] w (.string ⟨(Yk n k).toArray⟩):=by
 have F:=aa hn;clear hn
 have z:=aa hk8;have b1:(0:Int)<(k:Int):=by omega
 have b2:(k:Int)<=8:=by omega
 go_enter func87,ntmps87;go_wp2
 go_loopw [5,6] (λy i wr=>∃j:Nat,j<=k/\i= .int .i64 ((j:Int) - 1)/\wr.ownsRow w.heap.size 5 1 y (k- j) (bys ((Yk n k).take (k- j)))/\abQ w wr) (λ_ i _=>(intOf i+1).toNat)
 case atStart=>exact⟨k,ac _,by go_num,by rw[Nat.sub_self];exact dD _ _ _ _,aq _ _⟩
 case round=>
  obtain⟨j,t,rfl,h,a⟩:=hrel;have p:=aa h;clear h
  by_cases v:0<j
  ·obtain⟨m,rfl⟩:∃m,j=m+1:=⟨j- 1,by omega⟩;have r:(((m+1:Nat):Int) - 1)=(m:Int):=by omega
   rw[r];clear r;have H:(m:Int)<8:=by omega
   have G:(0:Int)<=(m:Int):=by omega
   have f:Hid (m+1<=k):=aa t;have l:=aa a;clear t v a;go_wp2_with (at_builtin;refine kF _ rfl (.tmp 24) (.tmp 26) 139 rfl w.heap.size 5 (.int .u8 0) 1 1 underlying139 ku rfl (by decide) u5 _ _ rfl (p.o.alloc _) _ _ 1 1 [_] rfl (Rd.lit _ _ _ rfl (ed _) rfl) (by intro u x;simp at x;subst x;rfl) (by have:=f.o;unfold maxLen;omega) (by have:=f.o;omega) (by have:=l.o.size;simp;omega) ?_;intro I J d s D);go_roundw
   case rel=>
    have B:k- (m+1)+1=k- m:=by have:=f.o;omega
    refine⟨m,by have:=f.o;omega,by go_num,?_,kz (l.o.alloc l.o.size _) s (by have:=l.o.size;simp;omega) (λg E=>(cX p.o g E).1)⟩;rw[B]at d;have C:bys ((Yk n k).take (k- m))=bys ((Yk n k).take (k- (m+1)))++[.int .u8 ((n:Int) / 2^ (8*m) % 256)]:=Np f.o z.o;rw[C];exact d
   case measure=>simp[intOf]
  ·obtain rfl:j=0:=by omega
   obtain⟨A,c,rfl,_,o⟩:=jK p.o;have b:=ni (P:=prog) 139 9 5 underlying139 underlying5 underlying9 c o;have q:Hid ((Yk n k).take (k- 0)=Yk n k):=aa (by rw[bt (by rw[fM];omega)]);rw[q.o]at b;simp only[Nat.sub_zero]at b;clear o;go_wp2;go_ret;exact⟨rfl,a⟩
theorem QS(s:abO)(w:abP)(hs:s.size<=8):
  abT 181 #[.string s] w (.int .u64 (YZ (ls s))):=by
 have g:max (0:Int) ((s.size:Int) - 8)=0:=by omega
 go_enter func181,ntmps181;go_wp2
 go_loop [3,4] (λn i=>∃k:Nat,k<=s.size/\i= .int .i64 k/\n= .int .u64 (YZ ((ls s).take k))) (λ_ i=>s.size- (intOf i).toNat)
 case atStart=>exact⟨0,by omega,rfl,rfl⟩
 case round=>
  obtain⟨k,j,rfl,rfl⟩:=hrel;by_cases c:k<s.size
  ·have a:YZ ((ls s).take k)<72057594037927936:=by
    have b:=ka ((ls s).take k);have f:((ls s).take k).length=k:=by rw[cY,aN];omega
    rw[f]at b;exact YU b (aC (df (by omega) (by omega:k<=7)) (by decide))
   have d:Hid (((YZ ((ls s).take (k+1)):Nat):Int)=bits BinOp.or IntKind.u64 (IntKind.u64.wrap ((YZ ((ls s).take k):Int)*256)) (IntKind.u64.wrap (s[k].toNat:Int))):=by
    show _=_;rw[yU,Fw _ _ a,th s k c,Ag]
   generalize YZ ((ls s).take k)=n at*;have h:=aa a;clear a
   go_wp2
   go_round
   case rel=>exact⟨k+1,by omega,by go_num,by rw[d.o]⟩
   case measure=>simp[intOf];omega
  ·obtain rfl:k=s.size:=by omega
   go_wp2;go_ret;refine⟨?_,rfl⟩;show Ending.returned (.int .u64 (YZ ((ls s).take s.size)))=_;rw[bt (by rw[aN];exact ac _)]
abbrev RCT:TypeId:=135
def IC(w:abP)(g:Nat)(t:abO)(a:Nat)(e:Int):Prop:=Bk w g RCT (Am t a e)/\a<=t.size/\t.size<=4611686018427387904
theorem IC.cells(h:IC w g t a e):(w.cell? ⟨g,0,none⟩=some (.string t)/\w.cell? ⟨g,1,none⟩=some (.int .i64 a)/\w.cell? ⟨g,2,none⟩=some (.int .i64 e))/\w.frozen? ⟨g,0,none⟩=false/\w.frozen? ⟨g,1,none⟩=false/\w.frozen? ⟨g,2,none⟩=false:=h.1.three
theorem IC.lt(h:IC w g t a e):g<w.heap.size:=h.1.lt
theorem IC.below{w':abP}(h:IC w g t a e)(hb:abQ w w'):IC w' g t a e:=⟨h.1.below hb h.lt,h.2⟩
theorem IC.drewN(h:IC w g t a e)(n:Nat):IC (w.drewN n) g t a e:=⟨h.1.drewN n,h.2⟩
theorem QN(s:abO)(w:abP)(hs:s.size<=4611686018427387904):
  Calls prog 110 #[.string s] w λe w'=>e= .returned (.pointer (some ⟨w.heap.size,0,none⟩))/\IC w' w.heap.size s 0 0/\abQ w w':=by
 go_enter func110,ntmps110;go_wp2;go_ret;exact⟨rfl,⟨Bk.fresh _ _ _,by omega,hs⟩,(aq _ _).alloc (ac _) _⟩
def Rf(t:abO)(a:Nat)(e n:Int):abO:=if e=0/\jQ t a n=true then t.extract a (a+n.toNat)else⟨#[]⟩
theorem Sy(g a:Nat)(t:abO)(e:Int)(n:Int)(w:abP)(h:IC w g t a e):
  Calls prog 189 #[.pointer (some ⟨g,0,none⟩),.int .i64 n] w λe' w'=>e'= .returned (.string (Rf t a e n))/\abQ w w':=by
 obtain⟨⟨k,l,o⟩,_⟩:=h.cells;obtain⟨_,q,r⟩:=h;have y:IntKind.i64.wrap ((t.size:Int) - (a:Int))=(t.size:Int) - (a:Int):=by rw[aQ];omega
 by_cases f:e=0;rotate_left
 ·have b:Hid (Rf t a e n=⟨#[]⟩):=aa (by unfold Rf;rw[Fl (λx=>f x.1)]);have p:(e !=0)=true:=aA.2 f;clear f;go_enter func189,ntmps189;go_wp2;go_quiet (fail);go_wp2;go_ret;exact⟨by rw[b.o];rfl,aV (aq _ _) _⟩
 subst f;by_cases c:n<0
 ·have b:Hid (Rf t a 0 n=⟨#[]⟩):=aa (by unfold Rf;rw[Fl];rintro ⟨-,x⟩;simp[jQ]at x;omega);have i:decide (n<0)=true:=au c;clear c;go_enter func189,ntmps189;go_wp2;go_quiet (fail);go_wp2;go_ret;exact⟨by rw[b.o];rfl,aV (aq _ _) _⟩
 obtain⟨m,rfl⟩:=JL (show 0<=n by omega);have i:decide ((m:Int)<0)=false:=ah c;clear c;by_cases d:(t.size:Int) - a<m
 ·have b:Hid (Rf t a 0 m=⟨#[]⟩):=aa (by unfold Rf;rw[Fl];rintro ⟨-,x⟩;simp[jQ]at x;omega);have j:decide ((t.size:Int) - a<m)=true:=au d;clear d;go_enter func189,ntmps189;go_wp2;go_quiet (fail);go_wp2;go_ret;exact⟨by rw[b.o];rfl,aV (aq _ _) _⟩
 ·have b:Hid (Rf t a 0 m=t.extract a (a+m)):=aa (by unfold Rf;rw[if_pos ⟨rfl,by simp[jQ];omega⟩];rfl);have j:decide ((t.size:Int) - a<m)=false:=ah d;have s:(0:Int)<=(a:Int):=by omega
  have u:(a:Int)<=(a:Int)+(m:Int):=by omega
  have v:(a:Int)+(m:Int)<=(t.size:Int):=by omega
  have z:IntKind.i64.wrap ((a:Int)+(m:Int))=(a:Int)+(m:Int):=by rw[aQ];omega
  clear d;go_enter func189,ntmps189;go_wp2;go_quiet (fail);go_wp2;go_quiet (fail);go_wp2;go_ret;exact⟨by rw[b.o];rfl,aV (aV (aq _ _) _) _⟩
theorem Tj{n:Int}:Rf t a (aH t a e n).2.2 n=(aH t a e n).1/\(aH t a e n).2.1=a+(aH t a e n).1.size:=by
 unfold Rf aH;by_cases b:e=0
 ·subst b;cases c:jQ t a n
  ·simp;rfl
  ·have:0<=n/\n<=(t.size:Int) - a:=by simpa [jQ]using c
   simp only[if_true,and_self,true_and];rw[aj];omega
 ·simp[b];rfl
theorem QY(g a:Nat)(t:abO)(e:Int)(n:Int)(w:abP)(h:IC w g t a e):
  Calls prog 118 #[.pointer (some ⟨g,0,none⟩),.int .i64 n] w λe' w'=>
   e'= .returned (.string (aH t a e n).1)/\IC w' g t (aH t a e n).2.1 (aH t a e n).2.2/\w.grownBy w' (some g):=by
 have f:=aa h;obtain⟨r,s⟩:=Tj (t:=t) (a:=a) (e:=e) (n:=n);have D:=aa r;have i:=aa s
 have q:=aa (dy h.2.1 e n);obtain⟨⟨H,I,J⟩,M,f1,O⟩:=h.cells;obtain⟨_,S,G⟩:=h;have z:=aa G;have T:IntKind.i64.wrap ((t.size:Int) - (a:Int))=(t.size:Int) - (a:Int):=by rw[aQ];omega
 clear r s;have tail:∀(E:Int) (x:abP),(aH t a e n).2.2=E->IC x g t a E->w.grownBy x (some g)->
   Calls prog 189 #[.pointer (some ⟨g,0,none⟩),.int .i64 n] x λe' p=>e'= .returned (.string (aH t a e n).1)/\IC p g t a E/\w.grownBy p (some g):=by
  intro E x F j o;refine Yg (Sy g a t E n x j) λp C=>?_;refine⟨?_,j.below C,o.trans (Y7 C (some g))⟩;rw[<-D.o,F]
 have b:=aa tail;clear tail
 by_cases m:e=0;rotate_left
 focus
  have d:Hid ((aH t a e n).2.2=e):=aa (by unfold aH;rw[Fl m]);have L:(e==0)=false:=ar.2 m;clear m;obtain⟨N,c⟩:∃N,(aH t a e n).1=N:=⟨_,rfl⟩;rw[c]at i b⊢;have u:=aa c;clear c
  go_enter func118,ntmps118;go_wp2;go_quiet (fail);go_wp2_with fail;refine(b.o e _ d.o (f.o.drewN _) (nW (Yn _ _) _)).mono ?_
 rotate_left;subst m;by_cases k:n<0
 focus
  have d:Hid ((aH t a 0 n).2.2=3):=aa (by unfold aH;rw[if_pos rfl,Fl];simp[jQ];omega);have A:decide (n<0)=true:=au k;clear k;obtain⟨N,c⟩:∃N,(aH t a 0 n).1=N:=⟨_,rfl⟩;rw[c]at i b⊢;have u:=aa c;clear c
  go_enter func118,ntmps118;go_wp2;go_quiet (fail);go_wp2_with fail;refine(b.o 3 _ d.o ⟨(f.o.drewN _).1.upd 2 _ (by simp[Am]),f.o.2⟩ ((nW (Yn _ _) _).trans (YR _ _ _ _))).mono ?_
 rotate_left;have A:decide (n<0)=false:=ah k;by_cases l:(t.size:Int) - a<n
 focus
  have d:Hid ((aH t a 0 n).2.2=3):=aa (by unfold aH;rw[if_pos rfl,Fl];simp[jQ];omega);have B:decide ((t.size:Int) - a<n)=true:=au l;clear k l;obtain⟨N,c⟩:∃N,(aH t a 0 n).1=N:=⟨_,rfl⟩;rw[c]at i b⊢;have u:=aa c;clear c
  go_enter func118,ntmps118;go_wp2;go_quiet (fail);go_wp2_with fail;refine(b.o 3 _ d.o ⟨(f.o.drewN _).1.upd 2 _ (by simp[Am]),f.o.2⟩ ((nW (Yn _ _) _).trans (YR _ _ _ _))).mono ?_
 rotate_left
 focus
  have d:Hid ((aH t a 0 n).2.2=0):=aa (by unfold aH;rw[if_pos rfl,if_pos];simp[jQ];omega);have B:decide ((t.size:Int) - a<n)=false:=ah l;clear k l;obtain⟨N,c⟩:∃N,(aH t a 0 n).1=N:=⟨_,rfl⟩;rw[c]at i b⊢;have u:=aa c;clear c
  go_enter func118,ntmps118;go_wp2;go_quiet (fail);go_wp2_with fail;refine(b.o 0 _ d.o (f.o.drewN _) (nW (Yn _ _) _)).mono ?_
 rotate_left
 all_goals
  rintro e' p ⟨rfl,j,o⟩;obtain⟨⟨A,B,K⟩,P,Q,R⟩:=j.cells;have v:=aa j;have y:=aa o
  have U:IntKind.i64.wrap ((a:Int)+(N.size:Int))=(a:Int)+(N.size:Int):=by rw[aQ];have:=i.o;have:=q.o;have:=z.o;omega
  clear j o;go_wp2;go_ret;refine⟨rfl,⟨?_,q.o,z.o⟩,y.o.trans (YR _ _ _ _)⟩;refine v.o.1.upd 1 _ ?_;rw[d.o,i.o];simp[Am]
theorem Qz(g a:Nat)(t:abO)(e:Int)(n:Int)(w:abP)(h:IC w g t a e)(hn:n<=8):
  Calls prog 112 #[.pointer (some ⟨g,0,none⟩),.int .i64 n] w λe' w'=>
   e'= .returned (.int .u64 (br t a e n))/\IC w' g t (aH t a e n).2.1 (aH t a e n).2.2/\w.grownBy w' (some g):=by
 have i:=aa (kI h.2.1 e n 8 hn);have d:=aa h;clear h
 go_enter func112,ntmps112;go_wp2_with fail;refine(QY g a t e n _ d.o).mono ?_;rintro e' j ⟨rfl,b,c⟩;have f:=aa (And.intro b c);clear b c
 go_wp2_with fail;refine(QS _ _ i.o).mono ?_;rintro e' w' ⟨rfl,rfl⟩;go_wp2;go_ret;exact⟨rfl,f.o⟩
theorem Qv(g a:Nat)(t:abO)(e:Int)(n:Int)(w:abP)(h:IC w g t a e):
  Calls prog 113 #[.pointer (some ⟨g,0,none⟩),.int .i64 n] w λe' w'=>
   e'= .returned (.tuple #[])/\IC w' g t a (if e=0 then n else e)/\w.grownBy w' (some g):=by
 have c:=aa h;obtain⟨⟨d,f,i⟩,j,f1,k⟩:=h.cells;clear h;by_cases b:e=0
 ·subst b;rw[if_pos rfl];go_enter func113,ntmps113;go_wp2
  go_end0
  refine⟨rfl,⟨c.o.1.upd 2 _ ?_,c.o.2⟩,YR _ _ _ _⟩;simp[Am]
 ·rw[Fl b];have l:(e==0)=false:=by simpa using b
  clear b;go_enter func113,ntmps113;go_wp2
  go_end0
  exact⟨rfl,c.o,Yn _ _⟩
theorem QZ(g a:Nat)(t:abO)(e:Int)(w:abP)(h:IC w g t a e):
  Calls prog 183 #[.pointer (some ⟨g,0,none⟩)] w λe' w'=>e'= .returned (.string (t.extract a t.size))/\abQ w w':=by
 obtain⟨⟨b,c,d⟩,f,f1,i⟩:=h.cells;obtain⟨_,j,k⟩:=h;have l:(0:Int)<=(a:Int):=by omega
 have m:(a:Int)<=(t.size:Int):=by omega
 go_enter func183,ntmps183;go_wp2;go_quiet (fail);go_wp2;go_ret;exact⟨rfl,aV (aq _ _) _⟩
theorem Qy(g a:Nat)(t:abO)(e:Int)(w:abP)(h:IC w g t a e):
  Calls prog 119 #[.pointer (some ⟨g,0,none⟩)] w λe' w'=>e'= .returned (.int .i64 ((t.size- a:Nat):Int))/\abQ w w':=by
 obtain⟨⟨c,d,f⟩,i,f1,j⟩:=h.cells;obtain⟨_,k,l⟩:=h;have m:IntKind.i64.wrap ((t.size:Int) - (a:Int))=(t.size:Int) - (a:Int):=by rw[aQ];omega
 have b:Hid (((t.size- a:Nat):Int)=(t.size:Int) - (a:Int)):=aa (by omega);go_enter func119,ntmps119;go_wp2;go_quiet (fail);go_wp2;go_ret;exact⟨by rw[b.o];rfl,aV (aq _ _) _⟩
def Hf:List (Nat×List Int):=
 [(1,[3,16]),(2,[3,16]),(3,[3,16]),(8,[3,16]),(9,[3,16]),(11,[3,8]),(17,[1,2,14]),(18,[2]),(26,[2]),(19,[2]),(21,[1,2,15]),(22,[1,2,15]),(23,[1]),(25,[1]),(24,[16]),(28,[2,14]),
  (31,[2,4,5,6,7,9,11,14,15]),(33,[1,2]),(34,[1,2]),(35,[3]),(36,[2]),(37,[2]),(40,[2]),(41,[2]),(42,[2]),(38,[1,2,3,4,5,6,7,8,9,10,11,14,15,16]),(39,[1,2])]
def gN(id:Int):List Int:=((Hf.find? λp=>(p.1:Int)==id).map (·.2)).getD []
def Hp(id:Int)(A:Option Addr)(c:Nat):Value:=.agg #[.int .i64 (cr id).shape,.slice A (gN id).length c,.int .u32 (cr id).least,.int .u32 (cr id).most]
abbrev RwT:TypeId:=248
def GF(id:Int)(w:abP)(e:Ending)(w':abP):Prop:=∃A c,e= .returned (Hp id A c)/\Rd w' w'.heap.size 1 A (gN id).length (iv (gN id))/\abQ w w'
theorem Hx(A:Option Addr)(n c:Nat)(w:abP):abR 323 #[.slice A n c] w (.agg #[.int .i64 1,.slice A n c,.int .u32 0,.int .u32 1]):=by
 go_enter func323,ntmps323;go_wp2;exact abZ (v:=.agg #[.int .i64 1,.slice A n c,.int .u32 0,.int .u32 1]) (by simp[results,Tryz.results323,go_sem]) rfl ⟨rfl,(aq _ _).alloc (ac _) _⟩
theorem Jz(A:Option Addr)(n c:Nat)(l:Int)(w:abP):abR 326 #[.slice A n c,.int .u32 l] w (.agg #[.int .i64 2,.slice A n c,.int .u32 l,.int .u32 65535]):=by
 go_enter func326,ntmps326;go_wp2;exact abZ (v:=.agg #[.int .i64 2,.slice A n c,.int .u32 l,.int .u32 65535]) (by simp[results,Tryz.results326,go_sem]) rfl ⟨rfl,(aq _ _).alloc (ac _) _⟩
theorem Jh(A:Option Addr)(n c:Nat)(l:Int)(w:abP):abR 324 #[.slice A n c,.int .u32 l] w (.agg #[.int .i64 3,.slice A n c,.int .u32 l,.int .u32 4294967295]):=by
 go_enter func324,ntmps324;go_wp2;exact abZ (v:=.agg #[.int .i64 3,.slice A n c,.int .u32 l,.int .u32 4294967295]) (by simp[results,Tryz.results324,go_sem]) rfl ⟨rfl,(aq _ _).alloc (ac _) _⟩
theorem Hu(A:Option Addr)(n c:Nat)(k:Int)(w:abP):abR 325 #[.int .i64 k,.slice A n c] w (.agg #[.int .i64 k,.slice A n c,.int .u32 0,.int .u32 0]):=by
 go_enter func325,ntmps325;go_wp2;exact abZ (v:=.agg #[.int .i64 k,.slice A n c,.int .u32 0,.int .u32 0]) (by simp[results,Tryz.results325,go_sem]) rfl ⟨rfl,(aq _ _).alloc (ac _) _⟩
theorem Ze(w:abP)(o:Obj):(w.alloc o).heap.size=w.heap.size+1:=by simp
theorem abA{t:TypeId}{xs:List Value}(h:Bk w g t cs)(hx:cs.toList=xs)(hn:xs.length=n):Rd w w.heap.size 1 (some ⟨g,0,none⟩) n xs:=by
 subst hx hn;refine qX (by omega) h.lt λj u a=>?_;have e:(⟨g,0,none⟩:Addr).add j=⟨g,j,none⟩:=by simp[Addr.add];intro e;exact e.symm
 rw[e,h.cell,<-a];simp
theorem GC{w x:abP}{t:TypeId}{sh le mo:Int}{a b c d:Value}{ks:List Int}(hk:gN id=ks)(hc:cs.toList=iv ks)(hn:ks.length=n)(hr:((cr id).shape:Int)=sh/\((cr id).least:Int)=le/\((cr id).most:Int)=mo)
  (hs:Bk x (w.heap.size+1) t cs)(hb:abQ w x):
  GF id w (.returned (.agg #[.int .i64 sh,.slice (some ⟨w.heap.size+1,0,none⟩) n n,.int .u32 le,.int .u32 mo])) ((((x.setCell ⟨w.heap.size,0,none⟩ a).setCell ⟨w.heap.size,1,none⟩ b).setCell ⟨w.heap.size,2,none⟩ c).setCell ⟨w.heap.size,3,none⟩ d):=by
 obtain⟨rfl,rfl,rfl⟩:=hr;subst hk hn;exact⟨_,_,rfl,abA (hs.put_other (by omega)) hc (Qg _),cD hb (ac _) _ _ _ _⟩
theorem fF{fn:Func}{p:Tmp}(hr:fn.results= #[.cell p RwT])(tmps:Array Value){a b c d:Value}(hp:tmps.getD p undef= .pointer (some ⟨g,0,none⟩))(hb:Bk w g RwT #[a,b,c,d]):(results fn tmps).run prog w= .ok (.agg #[a,b,c,d]) w:=by
 obtain⟨⟨e,f,h,i⟩,-⟩:=hb.four;rw[Jf]at hp;simp only[results,hr];simp[hp,go_sem,e,f,h,i]
theorem Qq(w:abP)(cs:Array Value):Hid (Bk ((w.alloc (.cells #[.int .i64 0,.slice none 0 0,.int .u32 0,.int .u32 0] RwT)).alloc (.cells cs 3)) w.heap.size RwT #[.int .i64 0,.slice none 0 0,.int .u32 0,.int .u32 0])/\
  Hid (Bk ((w.alloc (.cells #[.int .i64 0,.slice none 0 0,.int .u32 0,.int .u32 0] RwT)).alloc (.cells cs 3)) (w.heap.size+1) 3 cs)/\
  Hid (abQ w ((w.alloc (.cells #[.int .i64 0,.slice none 0 0,.int .u32 0,.int .u32 0] RwT)).alloc (.cells cs 3))):=by
 have a:=Bk.fresh (w.alloc (.cells #[.int .i64 0,.slice none 0 0,.int .u32 0,.int .u32 0] RwT)) 3 cs;rw[Ze]at a;exact⟨aa ((Bk.fresh w RwT #[.int .i64 0,.slice none 0 0,.int .u32 0,.int .u32 0]).alloc _),aa a,aa (((aq w.heap.size w).alloc (ac _) _).alloc (by simp) _)⟩
theorem Qs{x y:abP}{q:Nat}{t u:TypeId}{ds:Array Value}(HR:Hid (Bk x g t cs))(HS:Hid (Bk x q u ds))(HB:Hid (abQ w x))(hb:abQ x y):Hid (Bk y g t cs)/\Hid (Bk y q u ds)/\Hid (abQ w y):=
 ⟨aa (Yh HR.o hb),aa (Yh HS.o hb),aa (Yf HB.o hb)⟩
theorem YA(w:abP):Calls prog 292 #[.int .i64 1] w (GF 1 w):=by
 obtain⟨g,h,f⟩:=Qq w #[.int .i64 3,.int .i64 16];go_enter func292,ntmps292;go_wp2_with fail;refine Yg (Hx _ _ _ _) λp d=>?_;obtain⟨a,c,b⟩:=Qs g h f d;clear d;obtain⟨⟨i,j,k,l⟩,m,f1,n,o⟩:=a.o.four;go_wp2;refine abZ (fF rfl _ rfl a.o.put_four) rfl (GC (ks:=[3,16]) (by decide+kernel) rfl rfl (by decide+kernel) c.o b.o)
theorem Qe(w:abP):Calls prog 292 #[.int .i64 2] w (GF 2 w):=by
 obtain⟨g,h,f⟩:=Qq w #[.int .i64 3,.int .i64 16];go_enter func292,ntmps292;go_wp2_with fail;refine Yg (Jh _ _ _ 0 _) λp d=>?_;obtain⟨a,c,b⟩:=Qs g h f d;clear d;obtain⟨⟨i,j,k,l⟩,m,f1,n,o⟩:=a.o.four;go_wp2;refine abZ (fF rfl _ rfl a.o.put_four) rfl (GC (ks:=[3,16]) (by decide+kernel) rfl rfl (by decide+kernel) c.o b.o)
theorem Qd(w:abP):Calls prog 292 #[.int .i64 3] w (GF 3 w):=by
 obtain⟨g,h,f⟩:=Qq w #[.int .i64 3,.int .i64 16];go_enter func292,ntmps292;go_wp2_with fail;refine Yg (Hu _ _ _ 5 _) λp d=>?_;obtain⟨a,c,b⟩:=Qs g h f d;clear d;obtain⟨⟨i,j,k,l⟩,m,f1,n,o⟩:=a.o.four;go_wp2;refine abZ (fF rfl _ rfl a.o.put_four) rfl (GC (ks:=[3,16]) (by decide+kernel) rfl rfl (by decide+kernel) c.o b.o)
theorem Qc(w:abP):Calls prog 292 #[.int .i64 8] w (GF 8 w):=by
 obtain⟨g,h,f⟩:=Qq w #[.int .i64 3,.int .i64 16];go_enter func292,ntmps292;go_wp2_with fail;refine Yg (Hu _ _ _ 5 _) λp d=>?_;obtain⟨a,c,b⟩:=Qs g h f d;clear d;obtain⟨⟨i,j,k,l⟩,m,f1,n,o⟩:=a.o.four;go_wp2;refine abZ (fF rfl _ rfl a.o.put_four) rfl (GC (ks:=[3,16]) (by decide+kernel) rfl rfl (by decide+kernel) c.o b.o)
theorem Qb(w:abP):Calls prog 292 #[.int .i64 9] w (GF 9 w):=by
 obtain⟨g,h,f⟩:=Qq w #[.int .i64 3,.int .i64 16];go_enter func292,ntmps292;go_wp2_with fail;refine Yg (Hu _ _ _ 6 _) λp d=>?_;obtain⟨a,c,b⟩:=Qs g h f d;clear d;obtain⟨⟨i,j,k,l⟩,m,f1,n,o⟩:=a.o.four;go_wp2;refine abZ (fF rfl _ rfl a.o.put_four) rfl (GC (ks:=[3,16]) (by decide+kernel) rfl rfl (by decide+kernel) c.o b.o)
theorem PD(w:abP):Calls prog 292 #[.int .i64 11] w (GF 11 w):=by
 obtain⟨c,d,b⟩:=Qq w #[.int .i64 3,.int .i64 8];go_enter func292,ntmps292;have f:=c;have g:=d;have e:=b
 go_wp2;refine abZ (v:=.agg #[.int .i64 4,.slice (some ⟨w.heap.size+1,0,none⟩) 2 2,.int .u32 1,.int .u32 268435455]) (by simp[results,Tryz.results292,go_sem]) rfl ⟨_,_,rfl,?_,((aq w.heap.size w).alloc (ac _) _).alloc (by simp) _⟩;have a:=Bk.fresh (w.alloc (.cells #[.int .i64 4,.slice (some ⟨w.heap.size+1,0,none⟩) 2 2,.int .u32 1,.int .u32 268435455] RwT)) 3 #[.int .i64 3,.int .i64 8];rw[Ze]at a;exact abA a rfl rfl
theorem PC(w:abP):Calls prog 292 #[.int .i64 17] w (GF 17 w):=by
 obtain⟨g,h,f⟩:=Qq w #[.int .i64 1,.int .i64 2,.int .i64 14];go_enter func292,ntmps292;go_wp2_with fail;refine Yg (Jh _ _ _ 0 _) λp d=>?_;obtain⟨a,c,b⟩:=Qs g h f d;clear d;obtain⟨⟨i,j,k,l⟩,m,f1,n,o⟩:=a.o.four;go_wp2;refine abZ (fF rfl _ rfl a.o.put_four) rfl (GC (ks:=[1,2,14]) (by decide+kernel) rfl rfl (by decide+kernel) c.o b.o)
theorem PA(w:abP):Calls prog 292 #[.int .i64 18] w (GF 18 w):=by
 obtain⟨g,h,f⟩:=Qq w #[.int .i64 2];go_enter func292,ntmps292;go_wp2_with fail;refine Yg (Hu _ _ _ 5 _) λp d=>?_;obtain⟨a,c,b⟩:=Qs g h f d;clear d;obtain⟨⟨i,j,k,l⟩,m,f1,n,o⟩:=a.o.four;go_wp2;refine abZ (fF rfl _ rfl a.o.put_four) rfl (GC (ks:=[2]) (by decide+kernel) rfl rfl (by decide+kernel) c.o b.o)
theorem Pt(w:abP):Calls prog 292 #[.int .i64 26] w (GF 26 w):=by
 obtain⟨g,h,f⟩:=Qq w #[.int .i64 2];go_enter func292,ntmps292;go_wp2_with fail;refine Yg (Hu _ _ _ 5 _) λp d=>?_;obtain⟨a,c,b⟩:=Qs g h f d;clear d;obtain⟨⟨i,j,k,l⟩,m,f1,n,o⟩:=a.o.four;go_wp2;refine abZ (fF rfl _ rfl a.o.put_four) rfl (GC (ks:=[2]) (by decide+kernel) rfl rfl (by decide+kernel) c.o b.o)
theorem Pz(w:abP):Calls prog 292 #[.int .i64 19] w (GF 19 w):=by
 obtain⟨g,h,f⟩:=Qq w #[.int .i64 2];go_enter func292,ntmps292;go_wp2_with fail;refine Yg (Jz _ _ _ 0 _) λp d=>?_;obtain⟨a,c,b⟩:=Qs g h f d;clear d;obtain⟨⟨i,j,k,l⟩,m,f1,n,o⟩:=a.o.four;go_wp2;refine abZ (fF rfl _ rfl a.o.put_four) rfl (GC (ks:=[2]) (by decide+kernel) rfl rfl (by decide+kernel) c.o b.o)
theorem Py(w:abP):Calls prog 292 #[.int .i64 21] w (GF 21 w):=by
 obtain⟨g,h,f⟩:=Qq w #[.int .i64 1,.int .i64 2,.int .i64 15];go_enter func292,ntmps292;go_wp2_with fail;refine Yg (Hu _ _ _ 5 _) λp d=>?_;obtain⟨a,c,b⟩:=Qs g h f d;clear d;obtain⟨⟨i,j,k,l⟩,m,f1,n,o⟩:=a.o.four;go_wp2;refine abZ (fF rfl _ rfl a.o.put_four) rfl (GC (ks:=[1,2,15]) (by decide+kernel) rfl rfl (by decide+kernel) c.o b.o)
theorem Px(w:abP):Calls prog 292 #[.int .i64 22] w (GF 22 w):=by
 obtain⟨g,h,f⟩:=Qq w #[.int .i64 1,.int .i64 2,.int .i64 15];go_enter func292,ntmps292;go_wp2_with fail;refine Yg (Hu _ _ _ 6 _) λp d=>?_;obtain⟨a,c,b⟩:=Qs g h f d;clear d;obtain⟨⟨i,j,k,l⟩,m,f1,n,o⟩:=a.o.four;go_wp2;refine abZ (fF rfl _ rfl a.o.put_four) rfl (GC (ks:=[1,2,15]) (by decide+kernel) rfl rfl (by decide+kernel) c.o b.o)
theorem Pw(w:abP):Calls prog 292 #[.int .i64 23] w (GF 23 w):=by
 obtain⟨g,h,f⟩:=Qq w #[.int .i64 1];go_enter func292,ntmps292;go_wp2_with fail;refine Yg (Hx _ _ _ _) λp d=>?_;obtain⟨a,c,b⟩:=Qs g h f d;clear d;obtain⟨⟨i,j,k,l⟩,m,f1,n,o⟩:=a.o.four;go_wp2;refine abZ (fF rfl _ rfl a.o.put_four) rfl (GC (ks:=[1]) (by decide+kernel) rfl rfl (by decide+kernel) c.o b.o)
theorem Pu(w:abP):Calls prog 292 #[.int .i64 25] w (GF 25 w):=by
 obtain⟨g,h,f⟩:=Qq w #[.int .i64 1];go_enter func292,ntmps292;go_wp2_with fail;refine Yg (Hx _ _ _ _) λp d=>?_;obtain⟨a,c,b⟩:=Qs g h f d;clear d;obtain⟨⟨i,j,k,l⟩,m,f1,n,o⟩:=a.o.four;go_wp2;refine abZ (fF rfl _ rfl a.o.put_four) rfl (GC (ks:=[1]) (by decide+kernel) rfl rfl (by decide+kernel) c.o b.o)
theorem Pv(w:abP):Calls prog 292 #[.int .i64 24] w (GF 24 w):=by
 obtain⟨g,h,f⟩:=Qq w #[.int .i64 16];go_enter func292,ntmps292;go_wp2_with fail;refine Yg (Jh _ _ _ 0 _) λp d=>?_;obtain⟨a,c,b⟩:=Qs g h f d;clear d;obtain⟨⟨i,j,k,l⟩,m,f1,n,o⟩:=a.o.four;go_wp2;refine abZ (fF rfl _ rfl a.o.put_four) rfl (GC (ks:=[16]) (by decide+kernel) rfl rfl (by decide+kernel) c.o b.o)
theorem Ps(w:abP):Calls prog 292 #[.int .i64 28] w (GF 28 w):=by
 obtain⟨g,h,f⟩:=Qq w #[.int .i64 2,.int .i64 14];go_enter func292,ntmps292;go_wp2_with fail;refine Yg (Hu _ _ _ 5 _) λp d=>?_;obtain⟨a,c,b⟩:=Qs g h f d;clear d;obtain⟨⟨i,j,k,l⟩,m,f1,n,o⟩:=a.o.four;go_wp2;refine abZ (fF rfl _ rfl a.o.put_four) rfl (GC (ks:=[2,14]) (by decide+kernel) rfl rfl (by decide+kernel) c.o b.o)
theorem Pq(w:abP):Calls prog 292 #[.int .i64 31] w (GF 31 w):=by
 obtain⟨g,h,f⟩:=Qq w #[.int .i64 2,.int .i64 4,.int .i64 5,.int .i64 6,.int .i64 7,.int .i64 9,.int .i64 11,.int .i64 14,.int .i64 15];go_enter func292,ntmps292;go_wp2_with fail;refine Yg (Hu _ _ _ 5 _) λp d=>?_;obtain⟨a,c,b⟩:=Qs g h f d;clear d;obtain⟨⟨i,j,k,l⟩,m,f1,n,o⟩:=a.o.four;go_wp2;refine abZ (fF rfl _ rfl a.o.put_four) rfl (GC (ks:=[2,4,5,6,7,9,11,14,15]) (by decide+kernel) rfl rfl (by decide+kernel) c.o b.o)
theorem Pp(w:abP):Calls prog 292 #[.int .i64 33] w (GF 33 w):=by
 obtain⟨g,h,f⟩:=Qq w #[.int .i64 1,.int .i64 2];go_enter func292,ntmps292;go_wp2_with fail;refine Yg (Jz _ _ _ 1 _) λp d=>?_;obtain⟨a,c,b⟩:=Qs g h f d;clear d;obtain⟨⟨i,j,k,l⟩,m,f1,n,o⟩:=a.o.four;go_wp2;refine abZ (fF rfl _ rfl a.o.put_four) rfl (GC (ks:=[1,2]) (by decide+kernel) rfl rfl (by decide+kernel) c.o b.o)
theorem Po(w:abP):Calls prog 292 #[.int .i64 34] w (GF 34 w):=by
 obtain⟨g,h,f⟩:=Qq w #[.int .i64 1,.int .i64 2];go_enter func292,ntmps292;go_wp2_with fail;refine Yg (Jz _ _ _ 0 _) λp d=>?_;obtain⟨a,c,b⟩:=Qs g h f d;clear d;obtain⟨⟨i,j,k,l⟩,m,f1,n,o⟩:=a.o.four;go_wp2;refine abZ (fF rfl _ rfl a.o.put_four) rfl (GC (ks:=[1,2]) (by decide+kernel) rfl rfl (by decide+kernel) c.o b.o)
theorem Pn(w:abP):Calls prog 292 #[.int .i64 35] w (GF 35 w):=by
 obtain⟨g,h,f⟩:=Qq w #[.int .i64 3];go_enter func292,ntmps292;go_wp2_with fail;refine Yg (Jz _ _ _ 1 _) λp d=>?_;obtain⟨a,c,b⟩:=Qs g h f d;clear d;obtain⟨⟨i,j,k,l⟩,m,f1,n,o⟩:=a.o.four;go_wp2;refine abZ (fF rfl _ rfl a.o.put_four) rfl (GC (ks:=[3]) (by decide+kernel) rfl rfl (by decide+kernel) c.o b.o)
theorem Pm(w:abP):Calls prog 292 #[.int .i64 36] w (GF 36 w):=by
 obtain⟨g,h,f⟩:=Qq w #[.int .i64 2];go_enter func292,ntmps292;go_wp2_with fail;refine Yg (Hx _ _ _ _) λp d=>?_;obtain⟨a,c,b⟩:=Qs g h f d;clear d;obtain⟨⟨i,j,k,l⟩,m,f1,n,o⟩:=a.o.four;go_wp2;refine abZ (fF rfl _ rfl a.o.put_four) rfl (GC (ks:=[2]) (by decide+kernel) rfl rfl (by decide+kernel) c.o b.o)
theorem Pj(w:abP):Calls prog 292 #[.int .i64 37] w (GF 37 w):=by
 obtain⟨g,h,f⟩:=Qq w #[.int .i64 2];go_enter func292,ntmps292;go_wp2_with fail;refine Yg (Hx _ _ _ _) λp d=>?_;obtain⟨a,c,b⟩:=Qs g h f d;clear d;obtain⟨⟨i,j,k,l⟩,m,f1,n,o⟩:=a.o.four;go_wp2;refine abZ (fF rfl _ rfl a.o.put_four) rfl (GC (ks:=[2]) (by decide+kernel) rfl rfl (by decide+kernel) c.o b.o)
theorem Pg(w:abP):Calls prog 292 #[.int .i64 40] w (GF 40 w):=by
 obtain⟨g,h,f⟩:=Qq w #[.int .i64 2];go_enter func292,ntmps292;go_wp2_with fail;refine Yg (Hx _ _ _ _) λp d=>?_;obtain⟨a,c,b⟩:=Qs g h f d;clear d;obtain⟨⟨i,j,k,l⟩,m,f1,n,o⟩:=a.o.four;go_wp2;refine abZ (fF rfl _ rfl a.o.put_four) rfl (GC (ks:=[2]) (by decide+kernel) rfl rfl (by decide+kernel) c.o b.o)
theorem Pf(w:abP):Calls prog 292 #[.int .i64 41] w (GF 41 w):=by
 obtain⟨g,h,f⟩:=Qq w #[.int .i64 2];go_enter func292,ntmps292;go_wp2_with fail;refine Yg (Hx _ _ _ _) λp d=>?_;obtain⟨a,c,b⟩:=Qs g h f d;clear d;obtain⟨⟨i,j,k,l⟩,m,f1,n,o⟩:=a.o.four;go_wp2;refine abZ (fF rfl _ rfl a.o.put_four) rfl (GC (ks:=[2]) (by decide+kernel) rfl rfl (by decide+kernel) c.o b.o)
theorem Pe(w:abP):Calls prog 292 #[.int .i64 42] w (GF 42 w):=by
 obtain⟨g,h,f⟩:=Qq w #[.int .i64 2];go_enter func292,ntmps292;go_wp2_with fail;refine Yg (Hx _ _ _ _) λp d=>?_;obtain⟨a,c,b⟩:=Qs g h f d;clear d;obtain⟨⟨i,j,k,l⟩,m,f1,n,o⟩:=a.o.four;go_wp2;refine abZ (fF rfl _ rfl a.o.put_four) rfl (GC (ks:=[2]) (by decide+kernel) rfl rfl (by decide+kernel) c.o b.o)
theorem Pi(w:abP):Calls prog 292 #[.int .i64 38] w (GF 38 w):=by
 obtain⟨g,h,f⟩:=Qq w #[.int .i64 1,.int .i64 2,.int .i64 3,.int .i64 4,.int .i64 5,.int .i64 6,.int .i64 7,.int .i64 8,.int .i64 9,.int .i64 10,.int .i64 11,.int .i64 14,.int .i64 15,.int .i64 16];go_enter func292,ntmps292;go_wp2_with fail;refine Yg (Hu _ _ _ 7 _) λp d=>?_;obtain⟨a,c,b⟩:=Qs g h f d;clear d;obtain⟨⟨i,j,k,l⟩,m,f1,n,o⟩:=a.o.four;go_wp2;refine abZ (fF rfl _ rfl a.o.put_four) rfl (GC (ks:=[1,2,3,4,5,6,7,8,9,10,11,14,15,16]) (by decide+kernel) rfl rfl (by decide+kernel) c.o b.o)
theorem Ph(w:abP):Calls prog 292 #[.int .i64 39] w (GF 39 w):=by
 obtain⟨g,h,f⟩:=Qq w #[.int .i64 1,.int .i64 2];go_enter func292,ntmps292;go_wp2_with fail;refine Yg (Jh _ _ _ 1 _) λp d=>?_;obtain⟨a,c,b⟩:=Qs g h f d;clear d;obtain⟨⟨i,j,k,l⟩,m,f1,n,o⟩:=a.o.four;go_wp2;refine abZ (fF rfl _ rfl a.o.put_four) rfl (GC (ks:=[1,2]) (by decide+kernel) rfl rfl (by decide+kernel) c.o b.o)
theorem Je{X:Type}{l:List (Nat×X)}(h:∀k:Nat,k∈l.map (·.1)->id≠(k:Int)):(l.find? λp=>(p.1:Int)==id)=none:=by
 rw[List.find?_eq_none];intro p a;have:=h p.1 (r8 a);simp;exact λe=>this e.symm
theorem Pd(h:∀k:Nat,k∈Hf.map (·.1)->id≠(k:Int))(w:abP):Calls prog 292 #[.int .i64 id] w (GF id w):=by
 have a:gN id=[]:=by unfold gN;rw[Je h];rfl
 have d:cr id=⟨0,0,0,0⟩:=by
  unfold cr;rw[Je (λk a=>h k ?_)]
  ·rfl
  ·have e:∀k∈dQ.map (·.1),k∈Hf.map (·.1):=by decide+kernel
   exact e k a
 have b:=aa a;have c:=aa d;clear a d
 have H:(id==1)=false:=ar.2 (h 1 (by decide+kernel));have I:(id==2)=false:=ar.2 (h 2 (by decide+kernel));have J:(id==3)=false:=ar.2 (h 3 (by decide+kernel));have K:(id==8)=false:=ar.2 (h 8 (by decide+kernel));have L:(id==9)=false:=ar.2 (h 9 (by decide+kernel));have g:(id==11)=false:=ar.2 (h 11 (by decide+kernel));have i:(id==17)=false:=ar.2 (h 17 (by decide+kernel));have j:(id==18)=false:=ar.2 (h 18 (by decide+kernel));have r:(id==26)=false:=ar.2 (h 26 (by decide+kernel));have l:(id==19)=false:=ar.2 (h 19 (by decide+kernel));have m:(id==21)=false:=ar.2 (h 21 (by decide+kernel));have n:(id==22)=false:=ar.2 (h 22 (by decide+kernel));have o:(id==23)=false:=ar.2 (h 23 (by decide+kernel));have q:(id==25)=false:=ar.2 (h 25 (by decide+kernel));have p:(id==24)=false:=ar.2 (h 24 (by decide+kernel));have s:(id==28)=false:=ar.2 (h 28 (by decide+kernel));have t:(id==31)=false:=ar.2 (h 31 (by decide+kernel));have u:(id==33)=false:=ar.2 (h 33 (by decide+kernel));have x:(id==34)=false:=ar.2 (h 34 (by decide+kernel));have y:(id==35)=false:=ar.2 (h 35 (by decide+kernel));have z:(id==36)=false:=ar.2 (h 36 (by decide+kernel));have A:(id==37)=false:=ar.2 (h 37 (by decide+kernel));have D:(id==40)=false:=ar.2 (h 40 (by decide+kernel));have E:(id==41)=false:=ar.2 (h 41 (by decide+kernel));have F:(id==42)=false:=ar.2 (h 42 (by decide+kernel));have B:(id==38)=false:=ar.2 (h 38 (by decide+kernel));have C:(id==39)=false:=ar.2 (h 39 (by decide+kernel));have G:=aa (Bk.fresh w RwT #[.int .i64 0,.slice none 0 0,.int .u32 0,.int .u32 0]);have f:=aa ((aq w.heap.size w).alloc (ac _) (.cells #[.int .i64 0,.slice none 0 0,.int .u32 0,.int .u32 0] RwT));clear h;go_enter func292,ntmps292;go_wp2;refine abZ (v:=.agg #[.int .i64 0,.slice none 0 0,.int .u32 0,.int .u32 0]) (by simp[results,Tryz.results292,go_sem]) rfl ⟨none,0,?_,?_,f.o⟩
 ·unfold Hp;rw[b.o,c.o];rfl
 ·rw[b.o];exact Rd.nil _ _ _ _
theorem Gz(id:Int)(w:abP):Calls prog 292 #[.int .i64 id] w (GF id w):=by
 by_cases h:∀k:Nat,k∈Hf.map (·.1)->id≠(k:Int)
 ·exact Pd h w
 ·have d:∃k:Nat,k∈Hf.map (·.1)/\id=(k:Int):=by
   by_cases c:∃k:Nat,k∈Hf.map (·.1)/\id=(k:Int)
   ·exact c
   ·exact absurd (λk a e=>c ⟨k,a,e⟩) h
  obtain⟨k,a,rfl⟩:=d;have b:k=1\/k=2\/k=3\/k=8\/k=9\/k=11\/k=17\/k=18\/k=26\/k=19\/k=21\/k=22\/k=23\/k=25\/k=24\/k=28\/k=31\/k=33\/k=34\/k=35\/k=36\/k=37\/k=40\/k=41\/k=42\/k=38\/k=39:=by simpa [Hf]using a
  obtain rfl| rfl| rfl| rfl| rfl| rfl| rfl| rfl| rfl| rfl| rfl| rfl| rfl| rfl| rfl| rfl| rfl| rfl| rfl| rfl| rfl| rfl| rfl| rfl| rfl| rfl| rfl:=b
  ·exact YA w
  ·exact Qe w
  ·exact Qd w
  ·exact Qc w
  ·exact Qb w
  ·exact PD w
  ·exact PC w
  ·exact PA w
  ·exact Pt w
  ·exact Pz w
  ·exact Py w
  ·exact Px w
  ·exact Pw w
  ·exact Pu w
  ·exact Pv w
  ·exact Ps w
  ·exact Pq w
  ·exact Pp w
  ·exact Po w
  ·exact Pn w
  ·exact Pm w
  ·exact Pj w
  ·exact Pg w
  ·exact Pf w
  ·exact Pe w
  ·exact Pi w
  ·exact Ph w
section
theorem Ot(id:Int):∀k∈gN id,1<=k/\k<=16:=by
 have h:∀p∈Hf,∀k∈p.2,1<=k/\k<=16:=by decide+kernel
 unfold gN;cases a:Hf.find? λp=>(p.1:Int)==id with
 | none=>simp
 | some p=>exact h p (jc a)
theorem Nx:∀p∈Hf,∀k:Fin 17,(p.2.contains ((k.1:Nat):Int))=ng (cr p.1) ((k.1:Nat):Int):=by decide+kernel
theorem Nv(kind id:Int):(gN id).contains kind=Jv kind id:=by
 by_cases m:0<=kind/\kind<=16
 ·obtain⟨k,rfl⟩:=JL m.1;have d:k<17:=by omega
  unfold gN Jv;cases b:Hf.find? λp=>(p.1:Int)==id with
  | none=>
    have n:cr id=⟨0,0,0,0⟩:=by
     have g:=List.find?_eq_none.1 b;unfold cr;rw[Je (λj l e=>?_)]
     ·rfl
     ·have a:∀j∈dQ.map (·.1),j∈Hf.map (·.1):=by decide+kernel
      obtain⟨p,c,f⟩:=jX.1 (a j l);have:=g p c;subst f;simp[e]at this
    rw[n];simp[ng]
  | some p=>
    have c:=jc b;have i:(p.1:Int)=id:=by simpa using List.find?_some b
    have:=Nx p c ⟨k,d⟩;simp only[Option.map_some,kB];rw[<-i];exact this
 ·have a:ng (cr id) kind=false:=by
   unfold ng;by_cases h:1<=kind
   ·rw[au h,ah (by omega)];rfl
   ·rw[ah h];rfl
  unfold Jv;rw[a];rw[<-Bool.not_eq_true,IE];intro h;have:=Ot id kind h;omega
theorem Mj(a b c d:Value)(W:abP):(Instr.field RwT (.agg #[a,b,c,d]) 0).run prog W= .ok a W:=by kernel_rfl
theorem Mi(a b c d:Value)(W:abP):(Instr.field RwT (.agg #[a,b,c,d]) 1).run prog W= .ok b W:=by kernel_rfl
attribute [local go_sem] Mj Mi
theorem Bc(kind id:Int)(w:abP):abR 246 #[.int .i64 kind,.int .i64 id] w (.bool (Jv kind id)):=by
 have q:=aa (Nv kind id);go_enter func246,ntmps246;go_wp2_with fail;refine(Gz id _).mono ?_;rintro e I ⟨A,c,rfl,u,s⟩;unfold Hp;have B:=aa u;have n:=aa s;clear u s
 have y:Hid ((gN id).length<=20):=aa (by
  have h:∀p∈Hf,p.2.length<=20:=by decide+kernel
  unfold gN;cases D:Hf.find? λp=>(p.1:Int)==id with
  | none=>simp
  | some p=>exact h p (jc D))
 generalize gN id=l at*;have E:=y.o;go_wp2
 go_loop [6] (λi=>∃k:Nat,k<=l.length/\i= .int .i64 k/\(∀j,j<k->l[j]? ≠some kind)) (λi=>l.length- (intOf i).toNat)
 case atStart=>exact⟨0,by omega,rfl,λj f=>by omega⟩
 case round=>
  obtain⟨k,H,rfl,d⟩:=hrel;have m:=aa d;clear d
  by_cases t:k<l.length
  ·obtain⟨b,o,z,rfl,F,v,G⟩:=B.o.atI t;have r:=aa v;clear v
   have b1:(0:Int)<=(k:Int):=by omega
   have b2:(k:Int)<(l.length:Int):=by omega
   by_cases a:z=kind
   ·have C:(z==kind)=true:=aK.2 a;have g:Hid (l.contains kind=true):=aa (by rw[IE,<-a];exact iL r.o);clear a;go_wp2;go_ret;exact⟨by rw[<-q.o,g.o];rfl,n.o⟩
   ·have C:(z==kind)=false:=ar.2 a;have x:=aa a;clear a;go_wp2
    go_round
    case rel=>
     refine⟨k+1,by omega,by go_num,λj f=>?_⟩;rcases dx.1 f with h| rfl
     ·exact m.o j h
     ·rw[r.o];intro e;exact x.o (Option.some.inj e)
    case measure=>simp[intOf];omega
  ·obtain rfl:k=l.length:=by omega
   have g:Hid (l.contains kind=false):=aa (by
    rw[<-Bool.not_eq_true,IE];intro h;obtain⟨j,f,a⟩:=List.getElem_of_mem h;exact m.o j f (by rw[List.getElem?_eq_getElem f,a]))
   go_wp2;go_ret;exact⟨by rw[<-q.o,g.o];rfl,n.o⟩
theorem Lp(kind id:Int)(w:abP):abR 294 #[.int .i64 kind,.int .i64 id] w (.bool (Km kind id)):=by
 have d:Hid (Km kind id=(gS kind id&&Jv kind id)):=aa rfl;have i:Hid (gS kind id=(id==38 || (id==11&&kind==3))):=aa rfl;cases b:Jv kind id
 ·have a:=aa b;clear b
  go_enter func294,ntmps294;go_wp2_with fail;refine Yg (Bc kind id _) λk c=>?_;rw[a.o];go_wp2;go_ret;exact⟨by rw[d.o,a.o,ru];rfl,c⟩
 ·have a:=aa b;clear b
  cases g:(id==38)<;>cases f:(id==11)<;>cases j:(kind==3)
  all_goals
   have h:Hid (gS kind id=_):=aa (by rw[i.o,g,f,j]);go_enter func294,ntmps294;go_wp2_with fail;refine Yg (Bc kind id _) λk c=>?_;rw[a.o];go_wp2;go_ret;exact⟨by rw[d.o,a.o,h.o];rfl,c⟩
end
theorem Jt{sh ki le mo:Nat}(h:cr id=⟨sh,ki,le,mo⟩)(h5:sh≠5):(id==8)=false:=by
 refine ar.2 λe=>h5 ?_;subst e;have:(cr 8).shape=5:=by decide+kernel
 rw[h]at this;exact this
theorem Jp(kind:Int)(p:Pr)(hp:p.Ok)(w:abP):
  abR 248 #[.int .i64 kind,p.val] w (.int .i64 (de (cr p.id) kind p)):=by
 obtain⟨id,n,t,v⟩:=p;obtain⟨b,ki,le,i,C⟩:∃b ki le i,cr id=⟨b,ki,le,i⟩:=⟨_,_,_,_,rfl⟩;have ae:=(nL id).1;rw[C]at ae;have Q:b<=7:=ae;clear ae;obtain⟨E,hE⟩:∃E,de (cr id) kind ⟨id,n,t,v⟩=E:=⟨_,rfl⟩;have T:=aa hE;have I:Hid (t.size<=4611686018427387904/\v.size<=4611686018427387904):=aa hp.2;have ai:Hid (Jv kind id=ng (cr id) kind):=aa rfl;simp only[Pr.val,hE];have U:=aa C;clear hE hp;have B:=aa (Bk.fresh w 71 #[.int .i64 id,.int .u32 n,.string t,.string v]);have y:=aa ((aq w.heap.size w).alloc (ac _) (.cells #[.int .i64 id,.int .u32 n,.string t,.string v] 71));cases Y:Jv kind id
 ·have h:Hid (E=9):=aa (by rw[<-T.o];unfold de;rw[<-ai.o,Y];rfl);have P:=aa Y;clear Y C;go_enter func248,ntmps248;go_wp2_with fail;refine Yg (Bc kind id _) λW a=>?_;rw[P.o];have d:=aa (Yf y.o a);clear a
  go_wp2;go_ret;exact⟨by rw[h.o];rfl,d.o⟩
 have P:=aa Y;have H:Hid (de (cr id) kind ⟨id,n,t,v⟩=(if b<=4 then(if t.toList.isEmpty=false\/v.toList.isEmpty=false then 2 else if n<le\/i<n then 9 else 0)
   else if n≠0\/(v.toList.isEmpty=false/\b≠7)then 2 else if b=6 then(if 65535<t.size then 2 else 0)else if YF t=false\/YF v=false then 6 else if id=8/\fp t=false then 9 else 0)):=
  aa (by unfold de;rw[<-ai.o,Y,C];rfl)
 clear Y;by_cases z:b<=4
 focus
  have s4:decide ((b:Int)<=4)=true:=au (by omega);have s7:((b:Int) !=7)=true:=aA.2 (by omega);have q5:((b:Int)==5)=false:=ar.2 (by omega);have q7:((b:Int)==7)=false:=ar.2 (by omega);have q6:((b:Int)==6)=false:=ar.2 (by omega);have X:=Jt C (by omega);clear C;cases ht:t.toList.isEmpty
  focus
   have h:Hid (E=2):=aa (by rw[<-T.o,H.o,if_pos z,if_pos (.inl ht)]);clear z Q;go_enter func248,ntmps248
  rotate_left;cases hv:v.toList.isEmpty
  focus
   have h:Hid (E=2):=aa (by rw[<-T.o,H.o,if_pos z,if_pos (.inr hv)]);clear z Q;go_enter func248,ntmps248
  rotate_left;have ab:Hid (E=if n<le\/i<n then 9 else 0):=aa (by rw[<-T.o,H.o,if_pos z,Fl (by rw[ht,hv];simp)]);clear z Q;by_cases K:n<le
  focus
   have h:Hid (E=9):=aa (by rw[ab.o,if_pos (.inl K)]);have dl:decide ((n:Int)<(le:Int))=true:=au (by omega);have ap:decide (n<le)=true:=au K;clear K;go_enter func248,ntmps248
  rotate_left;have dl:decide ((n:Int)<(le:Int))=false:=ah (by omega);have ap:decide (n<le)=false:=ah K;by_cases hu:i<n
  focus
   have h:Hid (E=9):=aa (by rw[ab.o,if_pos (.inr hu)]);have du:decide ((i:Int)<(n:Int))=true:=au (by omega);have av:decide (i<n)=true:=au hu;clear K hu;go_enter func248,ntmps248
  rotate_left
  focus
   have h:Hid (E=0):=aa (by rw[ab.o,Fl (by omega)]);have du:decide ((i:Int)<(n:Int))=false:=ah (by omega);have av:decide (i<n)=false:=ah hu;clear K hu;go_enter func248,ntmps248
  rotate_left
 rotate_left 5;have s4:decide ((b:Int)<=4)=false:=ah (by omega);by_cases R:n=0;rotate_left
 focus
  have h:Hid (E=2):=aa (by rw[<-T.o,H.o,Fl z,if_pos (.inl R)]);have n0:((n:Int) !=0)=true:=aA.2 (by omega);clear z Q R C;go_enter func248,ntmps248
 rotate_left 6;have n0:((n:Int) !=0)=false:=by simp;omega
 by_cases L:b=7
 ·have s7:((b:Int) !=7)=false:=by simp;omega
  have q5:((b:Int)==5)=false:=ar.2 (by omega);have q7:((b:Int)==7)=true:=aK.2 (by omega);have q6:((b:Int)==6)=false:=ar.2 (by omega);have X:=Jt C (by omega);have G:Hid (E=if YF t=false\/YF v=false then 6 else if id=8/\fp t=false then 9 else 0):=aa (by rw[<-T.o,H.o,Fl z,Fl (by simp[R,L]),Fl (by omega)]);clear z Q R L C;cases g:YF t
  ·have h:Hid (E=6):=aa (by rw[G.o,if_pos (.inl g)]);have u:=aa g;clear g
   go_enter func248,ntmps248;go_wp2_with fail;refine Yg (Bc kind id _) λW a=>?_;rw[P.o];have f:=aa (Yh B.o a);have d:=aa (Yf y.o a);clear a
   obtain⟨⟨j,k,l,m⟩,o,f1,q,r⟩:=f.o.four;go_wp2_with fail;refine(Gz id _).mono ?_;rintro e Z ⟨A,c,rfl,-,a⟩;unfold Hp;rw[U.o];clear j k l m o f1 q r;have F:=aa ((Yh f.o a).alloc (.cells #[.int .i64 b,.slice A (gN id).length c,.int .u32 le,.int .u32 i] RwT));have D:=aa ((Yf d.o a).alloc (Yf d.o a).size (.cells #[.int .i64 b,.slice A (gN id).length c,.int .u32 le,.int .u32 i] RwT));clear a
   obtain⟨⟨j,k,l,m⟩,o,f1,q,r⟩:=F.o.four;go_wp2_with fail;refine(xj t _ I.o.1).mono ?_;rintro e M ⟨rfl,rfl⟩;rw[u.o];go_wp2;go_ret;exact⟨by rw[h.o];rfl,D.o⟩
  cases s:YF v
  focus
   have h:Hid (E=6):=aa (by rw[G.o,if_pos (.inr s)]);have u:=aa g;have J:=aa s;clear g s
   go_enter func248,ntmps248
  rotate_left;have u:=aa g;have J:=aa s
  have S:Hid (E=if id=8/\fp t=false then 9 else 0):=aa (by rw[G.o,Fl (by rw[g,s];simp)]);clear g s;have h:Hid (E=0):=aa (by rw[S.o,Fl (λx=>by have:=x.1;rw[this]at X;cases X)]);go_enter func248,ntmps248
  all_goals
   go_wp2_with fail;refine Yg (Bc kind id _) λW a=>?_;rw[P.o];have f:=aa (Yh B.o a);have d:=aa (Yf y.o a);clear a
   obtain⟨⟨j,k,l,m⟩,o,f1,q,r⟩:=f.o.four;go_wp2_with fail;refine(Gz id _).mono ?_;rintro e Z ⟨A,c,rfl,-,a⟩;unfold Hp;rw[U.o];clear j k l m o f1 q r;have F:=aa ((Yh f.o a).alloc (.cells #[.int .i64 b,.slice A (gN id).length c,.int .u32 le,.int .u32 i] RwT));have D:=aa ((Yf d.o a).alloc (Yf d.o a).size (.cells #[.int .i64 b,.slice A (gN id).length c,.int .u32 le,.int .u32 i] RwT));clear a
   obtain⟨⟨j,k,l,m⟩,o,f1,q,r⟩:=F.o.four;go_wp2_with fail;refine(xj t _ I.o.1).mono ?_;rintro e M ⟨rfl,rfl⟩;rw[u.o];go_wp2_with fail;refine(xj v _ I.o.2).mono ?_;rintro e M ⟨rfl,rfl⟩;rw[J.o];go_wp2;go_ret;exact⟨by rw[h.o];rfl,D.o⟩
 have s7:((b:Int) !=7)=true:=aA.2 (by omega);cases hv:v.toList.isEmpty
 focus
  have h:Hid (E=2):=aa (by rw[<-T.o,H.o,Fl z,if_pos (.inr ⟨hv,L⟩)]);clear z Q R L C;go_enter func248,ntmps248
 rotate_left;have ad:Hid (E=if b=6 then(if 65535<t.size then 2 else 0)else if YF t=false\/YF v=false then 6 else if id=8/\fp t=false then 9 else 0):=aa (by rw[<-T.o,H.o,Fl z,Fl (by rw[hv];simp[R])]);have q7:((b:Int)==7)=false:=ar.2 (by omega);by_cases O:b=6
 focus
  have q5:((b:Int)==5)=false:=ar.2 (by omega);have q6:((b:Int)==6)=true:=aK.2 (by omega);have X:=Jt C (by omega);by_cases K:65535<t.size
  focus
   have h:Hid (E=2):=aa (by rw[ad.o,if_pos O,if_pos K]);have dl:decide ((65535:Int)<(t.size:Int))=true:=au (by omega);clear z Q R L O K C;go_enter func248,ntmps248
  rotate_left
  focus
   have h:Hid (E=0):=aa (by rw[ad.o,if_pos O,Fl K]);have dl:decide ((65535:Int)<(t.size:Int))=false:=ah (by omega);clear z Q R L O K C;go_enter func248,ntmps248
  rotate_left
 rotate_left 2;have q5:((b:Int)==5)=true:=aK.2 (by omega);have q6:((b:Int)==6)=false:=ar.2 (by omega);have G:Hid (E=if YF t=false\/YF v=false then 6 else if id=8/\fp t=false then 9 else 0):=aa (by rw[ad.o,Fl O]);clear z Q R L O C;cases g:YF t
 ·have h:Hid (E=6):=aa (by rw[G.o,if_pos (.inl g)]);have u:=aa g;clear g
  go_enter func248,ntmps248;go_wp2_with fail;refine Yg (Bc kind id _) λW a=>?_;rw[P.o];have f:=aa (Yh B.o a);have d:=aa (Yf y.o a);clear a
  obtain⟨⟨j,k,l,m⟩,o,f1,q,r⟩:=f.o.four;go_wp2_with fail;refine(Gz id _).mono ?_;rintro e Z ⟨A,c,rfl,-,a⟩;unfold Hp;rw[U.o];clear j k l m o f1 q r;have F:=aa ((Yh f.o a).alloc (.cells #[.int .i64 b,.slice A (gN id).length c,.int .u32 le,.int .u32 i] RwT));have D:=aa ((Yf d.o a).alloc (Yf d.o a).size (.cells #[.int .i64 b,.slice A (gN id).length c,.int .u32 le,.int .u32 i] RwT));clear a
  obtain⟨⟨j,k,l,m⟩,o,f1,q,r⟩:=F.o.four;go_wp2_with fail;refine(xj t _ I.o.1).mono ?_;rintro e M ⟨rfl,rfl⟩;rw[u.o];go_wp2;go_ret;exact⟨by rw[h.o];rfl,D.o⟩
 cases s:YF v
 ·have h:Hid (E=6):=aa (by rw[G.o,if_pos (.inr s)]);have u:=aa g;have J:=aa s;clear g s
  go_enter func248,ntmps248;go_wp2_with fail;refine Yg (Bc kind id _) λW a=>?_;rw[P.o];have f:=aa (Yh B.o a);have d:=aa (Yf y.o a);clear a
  obtain⟨⟨j,k,l,m⟩,o,f1,q,r⟩:=f.o.four;go_wp2_with fail;refine(Gz id _).mono ?_;rintro e Z ⟨A,c,rfl,-,a⟩;unfold Hp;rw[U.o];clear j k l m o f1 q r;have F:=aa ((Yh f.o a).alloc (.cells #[.int .i64 b,.slice A (gN id).length c,.int .u32 le,.int .u32 i] RwT));have D:=aa ((Yf d.o a).alloc (Yf d.o a).size (.cells #[.int .i64 b,.slice A (gN id).length c,.int .u32 le,.int .u32 i] RwT));clear a
  obtain⟨⟨j,k,l,m⟩,o,f1,q,r⟩:=F.o.four;go_wp2_with fail;refine(xj t _ I.o.1).mono ?_;rintro e M ⟨rfl,rfl⟩;rw[u.o];go_wp2_with fail;refine(xj v _ I.o.2).mono ?_;rintro e M ⟨rfl,rfl⟩;rw[J.o];go_wp2;go_ret;exact⟨by rw[h.o];rfl,D.o⟩
 have u:=aa g;have J:=aa s
 have S:Hid (E=if id=8/\fp t=false then 9 else 0):=aa (by rw[G.o,Fl (by rw[g,s];simp)]);clear g s;by_cases V:id=8
 ·have X:(id==8)=true:=aK.2 V;cases N:fp t
  focus
   have h:Hid (E=9):=aa (by rw[S.o,if_pos ⟨V,N⟩]);have aj:=aa N;clear N V
   go_enter func248,ntmps248
  rotate_left
  focus
   have h:Hid (E=0):=aa (by rw[S.o,Fl (λx=>by rw[N]at x;cases x.2)]);have aj:=aa N;clear N V
   go_enter func248,ntmps248
  rotate_left
  all_goals
   go_wp2_with fail;refine Yg (Bc kind id _) λW a=>?_;rw[P.o];have f:=aa (Yh B.o a);have d:=aa (Yf y.o a);clear a
   obtain⟨⟨j,k,l,m⟩,o,f1,q,r⟩:=f.o.four;go_wp2_with fail;refine(Gz id _).mono ?_;rintro e Z ⟨A,c,rfl,-,a⟩;unfold Hp;rw[U.o];clear j k l m o f1 q r;have F:=aa ((Yh f.o a).alloc (.cells #[.int .i64 b,.slice A (gN id).length c,.int .u32 le,.int .u32 i] RwT));have D:=aa ((Yf d.o a).alloc (Yf d.o a).size (.cells #[.int .i64 b,.slice A (gN id).length c,.int .u32 le,.int .u32 i] RwT));clear a
   obtain⟨⟨j,k,l,m⟩,o,f1,q,r⟩:=F.o.four;go_wp2_with fail;refine(xj t _ I.o.1).mono ?_;rintro e M ⟨rfl,rfl⟩;rw[u.o];go_wp2_with fail;refine(xj v _ I.o.2).mono ?_;rintro e M ⟨rfl,rfl⟩;rw[J.o];go_wp2_with fail;refine(Hg t _ I.o.1).mono ?_;rintro e M ⟨rfl,rfl⟩;rw[aj.o];go_wp2;go_ret;exact⟨by rw[h.o];rfl,D.o⟩
 ·have h:Hid (E=0):=aa (by rw[S.o,Fl (λx=>V x.1)]);have X:(id==8)=false:=ar.2 V;clear V;go_enter func248,ntmps248;go_wp2_with fail;refine Yg (Bc kind id _) λW a=>?_;rw[P.o];have f:=aa (Yh B.o a);have d:=aa (Yf y.o a);clear a
  obtain⟨⟨j,k,l,m⟩,o,f1,q,r⟩:=f.o.four;go_wp2_with fail;refine(Gz id _).mono ?_;rintro e Z ⟨A,c,rfl,-,a⟩;unfold Hp;rw[U.o];clear j k l m o f1 q r;have F:=aa ((Yh f.o a).alloc (.cells #[.int .i64 b,.slice A (gN id).length c,.int .u32 le,.int .u32 i] RwT));have D:=aa ((Yf d.o a).alloc (Yf d.o a).size (.cells #[.int .i64 b,.slice A (gN id).length c,.int .u32 le,.int .u32 i] RwT));clear a
  obtain⟨⟨j,k,l,m⟩,o,f1,q,r⟩:=F.o.four;go_wp2_with fail;refine(xj t _ I.o.1).mono ?_;rintro e M ⟨rfl,rfl⟩;rw[u.o];go_wp2_with fail;refine(xj v _ I.o.2).mono ?_;rintro e M ⟨rfl,rfl⟩;rw[J.o];go_wp2;go_ret;exact⟨by rw[h.o];rfl,D.o⟩
 all_goals
  go_wp2_with fail;refine Yg (Bc kind id _) λW a=>?_;rw[P.o];have f:=aa (Yh B.o a);have d:=aa (Yf y.o a);clear a
  obtain⟨⟨j,k,l,m⟩,o,f1,q,r⟩:=f.o.four;go_wp2_with fail;refine(Gz id _).mono ?_;rintro e Z ⟨A,c,rfl,-,a⟩;unfold Hp;rw[U.o];clear j k l m o f1 q r;have F:=aa ((Yh f.o a).alloc (.cells #[.int .i64 b,.slice A (gN id).length c,.int .u32 le,.int .u32 i] RwT));have D:=aa ((Yf d.o a).alloc (Yf d.o a).size (.cells #[.int .i64 b,.slice A (gN id).length c,.int .u32 le,.int .u32 i] RwT));clear a
  obtain⟨⟨j,k,l,m⟩,o,f1,q,r⟩:=F.o.four;go_wp2;go_ret;exact⟨by rw[h.o];rfl,D.o⟩
section
attribute [local go_sem] Mj Mi
theorem Hw(s:abO)(w:abP)(hs:s.size<=65535):
  abR 245 #[.string s] w (.tuple #[.string (cQ s),.int .i64 0]):=by
 have b:Hid (cQ s=⟨(Yk s.size 2).toArray⟩++s):=aa rfl;have h:decide ((65535:Int)<(s.size:Int))=false:=ah (by omega);have c:Hid ((⟨(Yk s.size 2).toArray⟩:abO).size=2):=aa (by rw[GW,fM]);obtain⟨X,a⟩:∃X:abO,⟨(Yk s.size 2).toArray⟩=X:=⟨_,rfl⟩;rw[a]at b c;have d:=aa a;clear a
 have i:IntKind.u64.wrap (s.size:Int)=(s.size:Int):=by rw[iZ];omega
 have g:¬(9223372036854775807<X.size+s.size):=by have:=c.o;omega
 go_enter func245,ntmps245;go_wp2_with fail;refine Yg (GV s.size 2 _ (by omega) (by omega) (by omega)) λj f=>?_;rw[d.o];go_wp2;go_ret2;exact⟨by rw[b.o];rfl,f⟩
theorem JC(s:abO)(w:abP)(hs:s.size<=4611686018427387904):
  abR 202 #[.string s] w (.tuple #[.string (IM s).1,.int .i64 (IM s).2]):=by
 cases a:YF s
 ·have c:Hid (IM s=(⟨#[]⟩,6)):=aa (by unfold IM;rw[a];rfl);have b:=aa a;clear a
  go_enter func202,ntmps202;go_wp2_with fail;refine(xj s _ hs).mono ?_;rintro e i ⟨rfl,rfl⟩;rw[b.o];go_wp2;go_ret2;exact⟨by rw[c.o];rfl,aq _ _⟩
 ·have c:Hid (IM s=(cQ s,0)):=aa (by unfold IM;rw[if_pos a]);have l:=gL a;have b:=aa a;clear a
  have f:Hid (cQ s=⟨(Yk s.size 2).toArray⟩++s):=aa rfl;have h:Hid ((⟨(Yk s.size 2).toArray⟩:abO).size=2):=aa (by rw[GW,fM]);obtain⟨X,d⟩:∃X:abO,⟨(Yk s.size 2).toArray⟩=X:=⟨_,rfl⟩;rw[d]at f h;have g:=aa d;clear d
  have m:IntKind.u64.wrap (s.size:Int)=(s.size:Int):=by rw[iZ];omega
  have k:¬(9223372036854775807<X.size+s.size):=by have:=h.o;omega
  go_enter func202,ntmps202;go_wp2_with fail;refine(xj s _ hs).mono ?_;rintro e i ⟨rfl,rfl⟩;rw[b.o];go_wp2_with fail;refine Yg (GV s.size 2 _ (by omega) (by omega) (by omega)) λi j=>?_;rw[g.o];go_wp2;go_ret2;exact⟨by rw[c.o,f.o];rfl,j⟩
theorem QC(s:abO)(w:abP)(hs:s.size<=4611686018427387904):
  abT 188 #[.string s] w (.tuple #[.string (dJ s).1,.int .i64 (dJ s).2.1,.int .i64 (dJ s).2.2]):=by
 by_cases b:s.size<2
 ·have a:Hid (dJ s=(⟨#[]⟩,0,3)):=aa (by unfold dJ;rw[if_pos b]);have j:decide ((s.size:Int)<2)=true:=au (by omega);clear b;go_enter func188,ntmps188;go_wp2;go_ret3;exact⟨by rw[a.o];rfl,rfl⟩
 have j:decide ((s.size:Int)<2)=false:=ah (by omega);have m:(2:Int)<=(s.size:Int):=by omega
 have f:Hid (YZ (ls (s.extract 0 2))=br s 0 0 2):=aa (by
  unfold br aH;rw[if_pos rfl,if_pos (by simp[jQ];omega)];rfl)
 have h:Hid ((s.extract 0 2).size<=8):=aa (by rw[aj];omega);have g:Hid (br s 0 0 2<65536):=aa (by
  rw[<-f.o];have l:=ka (ls (s.extract 0 2));rw[aN,aj,show min 2 s.size- 0=2 by omega]at l;omega)
 have d:Hid (dJ s=if s.size<2+br s 0 0 2 then(⟨#[]⟩,0,3)else(s.extract 2 (2+br s 0 0 2),2+br s 0 0 2,0)):=aa (by unfold dJ;rw[Fl b]);clear b;generalize br s 0 0 2=n at*;have i:IntKind.i64.wrap (n:Int)=(n:Int):=by rw[aQ];have:=g.o;omega
 have q:IntKind.i64.wrap (2+(n:Int))=2+(n:Int):=by rw[aQ];have:=g.o;omega
 have r:IntKind.i64.wrap ((s.size:Int) - 2)=(s.size:Int) - 2:=by rw[aQ];omega
 by_cases c:s.size<2+n
 ·have a:Hid (dJ s=(⟨#[]⟩,0,3)):=aa (by rw[d.o,if_pos c]);have k:decide ((s.size:Int) - 2<(n:Int))=true:=au (by omega);clear c;go_enter func188,ntmps188;go_wp2_with fail;refine(QS _ _ h.o).mono ?_;rintro e i ⟨rfl,rfl⟩;rw[f.o];go_wp2;go_ret3;exact⟨by rw[a.o];rfl,rfl⟩
 ·have a:Hid (dJ s=(s.extract 2 (2+n),2+n,0)):=aa (by rw[d.o,Fl c]);have k:decide ((s.size:Int) - 2<(n:Int))=false:=ah (by omega);have o:(2:Int)+(n:Int)<=(s.size:Int):=by omega
  have p:((2:Int)+(n:Int)).toNat=2+n:=by omega
  clear c;go_enter func188,ntmps188;go_wp2_with fail;refine(QS _ _ h.o).mono ?_;rintro e i ⟨rfl,rfl⟩;rw[f.o];go_wp2;go_ret3;exact⟨by rw[a.o];rfl,rfl⟩
theorem Rl(s:abO)(w:abP)(hs:s.size<=4611686018427387904):
  abT 117 #[.string s] w (.tuple #[.string (ab0 s).1,.int .i64 (ab0 s).2.1,.int .i64 (ab0 s).2.2]):=by
 have g:Hid ((dJ s).1.size<=4611686018427387904):=aa (by
  unfold dJ;split
  ·exact ag _
  ·split
   ·exact ag _
   ·show(s.extract _ _).size<=_;rw[aj];omega)
 have a:Hid (ab0 s=if(dJ s).2.2=0/\YF (dJ s).1=false then(⟨#[]⟩,0,6)else dJ s):=aa rfl;have l:Hid ((dJ s).2.2=0\/dJ s=(⟨#[]⟩,0,3)):=aa (by
  unfold dJ;split
  ·exact .inr rfl
  ·split
   ·exact .inr rfl
   ·exact .inl rfl)
 rcases l.o with b| b;rotate_left
 ·have f:Hid (ab0 s=(⟨#[]⟩,0,3)):=aa (by rw[a.o,b,Fl (λx=>by cases x.1)]);have i:=aa b;clear b
  go_enter func117,ntmps117;go_wp2_with fail;refine(QC s _ hs).mono ?_;rintro e k ⟨rfl,rfl⟩;rw[i.o];go_wp2;go_ret3;exact⟨by rw[f.o];rfl,rfl⟩
 have d:=aa b;clear b
 obtain⟨T,N,F,h⟩:∃T N F,dJ s=(T,N,F):=⟨_,_,_,rfl⟩;rw[h]at g a d;simp only at g a d;obtain rfl:=d.o;have m:=aa h;clear h
 cases c:YF T
 focus
  have f:Hid (ab0 s=(⟨#[]⟩,0,6)):=aa (by rw[a.o,if_pos ⟨rfl,c⟩]);have j:=aa c;clear c d
  go_enter func117,ntmps117
 rotate_left
 focus
  have f:Hid (ab0 s=(T,N,0)):=aa (by rw[a.o,Fl (λx=>by rw[c]at x;cases x.2)]);have j:=aa c;clear c d
  go_enter func117,ntmps117
 rotate_left
 all_goals
  go_wp2_with fail;refine(QC s _ hs).mono ?_;rintro e k ⟨rfl,rfl⟩;rw[m.o];go_wp2_with fail;refine(xj T _ g.o).mono ?_;rintro e k ⟨rfl,rfl⟩;rw[j.o];go_wp2;go_ret3;exact⟨by rw[f.o];rfl,rfl⟩
theorem Hy(id:Int)(l:List Pr)(A:Option Addr)(c:Nat)(w:abP)(h:Rd w w.heap.size 4 A l.length (prs l))(hl:l.length<=4611686018427387904):
  abR 259 #[.slice A l.length c,.int .i64 id] w (.tuple #[(xg l id).val,.bool (nh l id).isSome]):=by
 have H:=aa h;clear h
 go_enter func259,ntmps259;go_wp2
 go_loopw [6] (λi wr=>∃k:Nat,k<=l.length/\i= .int .i64 k/\nh l id=nh (l.drop k) id/\Bk wr w.heap.size 71 #[.int .i64 0,.int .u32 0,.string ⟨#[]⟩,.string ⟨#[]⟩]/\abQ w wr) (λi _=>l.length- (intOf i).toNat)
 case atStart=>exact⟨0,by omega,rfl,rfl,Bk.fresh _ _ _,(aq _ _).alloc (ac _) _⟩
 case round=>
  obtain⟨k,P,rfl,C,g,a⟩:=hrel;have r:=aa C;have q:=aa g
  have Q:=a.size;have M:=g.lt;clear C g;by_cases m:k<l.length
  ·obtain⟨b,o,rfl,O,D,E,F,G⟩:=(H.o.below a).atP m;have B:=aa (bQ m);generalize l[k]=p at*;obtain⟨d,n,t,v⟩:=p;simp only at D E F G;have b1:(0:Int)<=(k:Int):=by omega
   have b2:(k:Int)<(l.length:Int):=by omega
   by_cases j:d=id
   ·subst j;obtain⟨⟨u,x,y,z⟩,J,f1,K,L⟩:=q.o.four;have f:Hid (nh l d=some ⟨d,n,t,v⟩):=aa (by rw[r.o,B.o];simp[nh]);go_wp2;have s:=aa ((cD a (ac _) (.int .i64 d) (.int .u32 n) (.string t) (.string v)));exact abZ (v:=.tuple #[.agg #[.int .i64 d,.int .u32 n,.string t,.string v],.bool true]) (by simp[results,Tryz.results259,go_sem,u,x,y,z]) rfl ⟨by unfold xg;rw[f.o];rfl,s.o⟩
   ·have I:(d==id)=false:=ar.2 j;have f:Hid (nh l id=nh (l.drop (k+1)) id):=aa (by rw[r.o,B.o];simp[nh,I]);have N:=aa j;clear j
    go_wp2;go_roundw
    case rel=>exact⟨k+1,by omega,by go_num,f.o,q.o,a⟩
    case measure=>simp[intOf];omega
  ·obtain rfl:k=l.length:=by omega
   have f:Hid (nh l id=none):=aa (by rw[r.o,ox];rfl);obtain⟨⟨u,x,y,z⟩,J,f1,K,L⟩:=q.o.four;go_wp2;have s:=aa (cD a (ac _) (.int .i64 0) (.int .u32 0) (.string ⟨#[]⟩) (.string ⟨#[]⟩));exact abZ (v:=.tuple #[.agg #[.int .i64 0,.int .u32 0,.string ⟨#[]⟩,.string ⟨#[]⟩],.bool false]) (by simp[results,Tryz.results259,go_sem,u,x,y,z]) rfl ⟨by unfold xg;rw[f.o];rfl,s.o⟩
theorem Ln(sh:Nat)(p:Pr)(hsh:gH p.id=sh)(h1:1<=sh)(h7:sh<=7)(hn:p.n<4294967296)(h4:sh=4->p.n<=268435455)(ht:5<=sh->p.text.size<=65535)(hv:5<=sh->p.value.size<=65535)(w:abP):
  abR 328 #[p.val] w (.string (YX sh p)):=by
 obtain⟨id,n,t,v⟩:=p;simp only[Pr.val];have y:Hid (n<4294967296):=aa hn;have H:=aa (And.intro hn (And.intro h4 (And.intro ht hv)));obtain⟨b,N,le,O,G⟩:∃sh N le O,cr id=⟨sh,N,le,O⟩:=⟨_,_,_,_,rfl⟩;have K:b=sh:=by
  have:(cr id).shape=sh:=hsh;rw[G]at this;exact this
 subst K;have s:=aa G;clear hn h4 ht hv hsh G;have hw:IntKind.u64.wrap (n:Int)=n:=by rw[iZ];have:=y.o;omega
 have Z:IntKind.i64.wrap (n:Int)=n:=by rw[aQ];have:=y.o;omega
 have f:=aa ((aq w.heap.size w).alloc (ac _) (.cells #[.int .i64 id,.int .u32 n,.string t,.string v] 71));have g:=aa (Bk.fresh w 71 #[.int .i64 id,.int .u32 n,.string t,.string v]);obtain rfl| rfl| rfl| rfl| D:b=1\/b=2\/b=3\/b=4\/5<=b:=by omega
 focus
  have r:Hid (YX 1 ⟨id,n,t,v⟩=⟨(Yk n 1).toArray⟩):=aa rfl;go_enter func328,ntmps328;go_wp2_with fail;refine(Gz id _).mono ?_;rintro e B ⟨A,c,rfl,-,a⟩;unfold Hp;rw[s.o];have d:=aa (Yh g.o a);have q:=aa (Yf f.o a);clear a
  obtain⟨⟨h,i,j,k⟩,l,f1,m,o⟩:=d.o.four;go_wp2_with fail;refine(GV n 1 _ (by have:=y.o;omega) (by omega) (by omega)).mono ?_
 rotate_left
 focus
  have r:Hid (YX 2 ⟨id,n,t,v⟩=⟨(Yk n 2).toArray⟩):=aa rfl;go_enter func328,ntmps328;go_wp2_with fail;refine(Gz id _).mono ?_;rintro e B ⟨A,c,rfl,-,a⟩;unfold Hp;rw[s.o];have d:=aa (Yh g.o a);have q:=aa (Yf f.o a);clear a
  obtain⟨⟨h,i,j,k⟩,l,f1,m,o⟩:=d.o.four;go_wp2_with fail;refine(GV n 2 _ (by have:=y.o;omega) (by omega) (by omega)).mono ?_
 rotate_left
 focus
  have r:Hid (YX 3 ⟨id,n,t,v⟩=⟨(Yk n 4).toArray⟩):=aa rfl;go_enter func328,ntmps328;go_wp2_with fail;refine(Gz id _).mono ?_;rintro e B ⟨A,c,rfl,-,a⟩;unfold Hp;rw[s.o];have d:=aa (Yh g.o a);have q:=aa (Yf f.o a);clear a
  obtain⟨⟨h,i,j,k⟩,l,f1,m,o⟩:=d.o.four;go_wp2_with fail;refine(GV n 4 _ (by have:=y.o;omega) (by omega) (by omega)).mono ?_
 rotate_left
 focus
  have r:Hid (YX 4 ⟨id,n,t,v⟩=⟨(eP n).toArray⟩):=aa rfl;go_enter func328,ntmps328;go_wp2_with fail;refine(Gz id _).mono ?_;rintro e B ⟨A,c,rfl,-,a⟩;unfold Hp;rw[s.o];have d:=aa (Yh g.o a);have q:=aa (Yf f.o a);clear a
  obtain⟨⟨h,i,j,k⟩,l,f1,m,o⟩:=d.o.four;go_wp2_with fail;refine(IB n _ (H.o.2.1 (by trivial))).mono ?_
 rotate_left;have F:=aa (H.o.2.2.1 D);have E:=aa (H.o.2.2.2 D)
 have q1:((b:Int)==1)=false:=ar.2 (by omega);have q2:((b:Int)==2)=false:=ar.2 (by omega);have q3:((b:Int)==3)=false:=ar.2 (by omega);have q4:((b:Int)==4)=false:=ar.2 (by omega);by_cases x:b=7
 ·have r:Hid (YX b ⟨id,n,t,v⟩=cQ t++cQ v):=aa (by unfold YX;rw[Fl (by omega),Fl (by omega),Fl (by omega),if_pos x]);have L:(cQ t).size<=65537:=by rw[eN];have:=F.o;simp only at this;omega
  have M:(cQ v).size<=65537:=by rw[eN];have:=E.o;simp only at this;omega
  have V:((b:Int)==7)=true:=aK.2 (by omega);obtain⟨X,I⟩:∃X,cQ t=X:=⟨_,rfl⟩;obtain⟨Y,J⟩:∃Y,cQ v=Y:=⟨_,rfl⟩;rw[I]at L r;rw[J]at M r;have Q:=aa I;have R:=aa J
  have U:¬(9223372036854775807<X.size+Y.size):=by omega
  clear x D h1 h7 I J;go_enter func328,ntmps328;go_wp2_with fail;refine(Gz id _).mono ?_;rintro e B ⟨A,c,rfl,-,a⟩;unfold Hp;rw[s.o];have d:=aa (Yh g.o a);have q:=aa (Yf f.o a);clear a
  obtain⟨⟨h,i,j,k⟩,l,f1,m,o⟩:=d.o.four;go_wp2_with fail;refine Yg (Hw t _ F.o) λP a=>?_;rw[Q.o];have z:=aa (Yh d.o a);have u:=aa (Yf q.o a);clear a h i j k l f1 m o
  obtain⟨⟨h,i,j,k⟩,l,f1,m,o⟩:=z.o.four;go_wp2_with fail;refine(Gz id _).mono ?_;rintro e W ⟨A,c,rfl,-,a⟩;unfold Hp;rw[s.o];have T:=aa (Yh z.o a);have C:=aa (Yf u.o a);clear a h i j k l f1 m o
  obtain⟨⟨h,i,j,k⟩,l,f1,m,o⟩:=T.o.four;go_wp2_with fail;refine Yg (Hw v _ E.o) λw4 a=>?_;rw[R.o];have S:=aa (Yf C.o a);clear a
  go_wp2;go_ret;exact⟨by rw[r.o];rfl,S.o⟩
 ·have r:Hid (YX b ⟨id,n,t,v⟩=cQ t):=aa (by unfold YX;rw[Fl (by omega),Fl (by omega),Fl (by omega),Fl x]);have V:((b:Int)==7)=false:=ar.2 (by omega);clear x D h1 h7;go_enter func328,ntmps328;go_wp2_with fail;refine(Gz id _).mono ?_;rintro e B ⟨A,c,rfl,-,a⟩;unfold Hp;rw[s.o];have d:=aa (Yh g.o a);have q:=aa (Yf f.o a);clear a
  obtain⟨⟨h,i,j,k⟩,l,f1,m,o⟩:=d.o.four;go_wp2_with fail;refine Yg (Hw t _ F.o) λP a=>?_;have z:=aa (Yh d.o a);have u:=aa (Yf q.o a);clear a h i j k l f1 m o
  obtain⟨⟨h,i,j,k⟩,l,f1,m,o⟩:=z.o.four;go_wp2_with fail;refine(Gz id _).mono ?_;rintro e W ⟨A,c,rfl,-,a⟩;unfold Hp;rw[s.o];have C:=aa (Yf u.o a);clear a h i j k l f1 m o
  go_wp2;go_ret;exact⟨by rw[r.o];rfl,C.o⟩
 all_goals
  rintro e P ⟨rfl,a⟩;have u:=aa (Yf q.o a);clear a
  go_wp2;go_ret;exact⟨by rw[r.o];rfl,u.o⟩
def twB(kind:Int)(l:List Pr)(id:Int):Bool:=(nh l id).isSome&& !Km kind id
theorem Lo(kind id:Int)(l:List Pr)(n:Nat)(hn:l.length=n)(A:Option Addr)(c:Nat)(w:abP)(h:Rd w w.heap.size 4 A n (prs l))(hl:n<=4611686018427387904):
  abR 249 #[.int .i64 kind,.slice A n c,.int .i64 id] w (.bool (twB kind l id)):=by
 subst hn;have H:=aa h;clear h
 have j:Hid (twB kind l id=((nh l id).isSome&& !Km kind id)):=aa rfl;cases b:(nh l id).isSome
 ·have g:Hid (twB kind l id=false):=aa (by rw[j.o,b];rfl);have f:=aa b;clear b
  go_enter func249,ntmps249;go_wp2_with fail;refine Yg (Hy id l A c _ H.o hl) λk a=>?_;rw[f.o];unfold Pr.val;have d:=aa (a.alloc a.size (.cells #[.int .i64 (xg l id).id,.int .u32 (xg l id).n,.string (xg l id).text,.string (xg l id).value] 71));clear a
  go_wp2;go_ret;exact⟨by rw[g.o];rfl,d.o⟩
 ·have g:Hid (twB kind l id= !Km kind id):=aa (by rw[j.o,b];rfl);have f:=aa b;clear b
  go_enter func249,ntmps249;go_wp2_with fail;refine Yg (Hy id l A c _ H.o hl) λk a=>?_;rw[f.o];unfold Pr.val;have d:=aa (a.alloc a.size (.cells #[.int .i64 (xg l id).id,.int .u32 (xg l id).n,.string (xg l id).text,.string (xg l id).value] 71));clear a
  go_wp2_with fail;refine Yg (Lp kind id _) λm a=>?_;have i:=aa (Yf d.o a);clear a
  go_wp2;go_ret;exact⟨by rw[g.o];rfl,i.o⟩
def Kn(l:List Pr):Bool:=(nh l 22).isSome&& !(nh l 21).isSome
theorem JN(l:List Pr)(n:Nat)(hn:l.length=n)(A:Option Addr)(c:Nat)(w:abP)(h:Rd w w.heap.size 4 A n (prs l))(hl:n<=4611686018427387904):
  abR 250 #[.slice A n c] w (.bool (Kn l)):=by
 subst hn;have H:=aa h;clear h
 have k:Hid (Kn l=((nh l 22).isSome&& !(nh l 21).isSome)):=aa rfl;cases d:(nh l 22).isSome<;>cases f:(nh l 21).isSome
 all_goals
  have m:=aa (k.o.trans (by rw[d,f]));have i:=aa d;have j:=aa f;clear d f
  go_enter func250,ntmps250;go_wp2_with fail;refine Yg (Hy 22 l A c _ H.o hl) λo a=>?_;rw[i.o];unfold Pr.val;have b:=aa (a.alloc a.size (.cells #[.int .i64 (xg l 22).id,.int .u32 (xg l 22).n,.string (xg l 22).text,.string (xg l 22).value] 71));clear a
  go_wp2_with fail;refine Yg (Hy 21 l A c _ ((H.o.below b.o).wider b.o.size) hl) λp a=>?_;rw[j.o];unfold Pr.val;have g:=aa ((Yf b.o a).alloc (Yf b.o a).size (.cells #[.int .i64 (xg l 21).id,.int .u32 (xg l 21).n,.string (xg l 21).text,.string (xg l 21).value] 71));clear a
  go_wp2;go_ret;exact⟨by rw[m.o];rfl,g.o⟩
end
