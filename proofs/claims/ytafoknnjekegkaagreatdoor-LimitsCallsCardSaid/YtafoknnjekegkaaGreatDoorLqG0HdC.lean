/- Parts: HdC, ConB, ConC, ConD, ConE, MqB. -/
import Derived.Laws.Rows
import Derived.Test.YtafoknnjekegkaaGreatDoorLqG0SubF
set_option maxRecDepth 10000
set_option maxHeartbeats 8000000
namespace Go.Proofs.YtafoknnjekegkaaGreatDoor
open Go.RowKit Go.Proofs.Tryz
variable {w w' x:abP}{g:Nat}{p:Pk}{h:Hs}{k v:Int}{A:Option Addr}
theorem AN(n:Nat):0<(eP n).length:=by
 unfold eP ig;split<;>simp
theorem tU(n:Nat)(w:abP)(hn:n<=268435455):abR 61 #[.int .i64 n] w (.int .i64 (eP n).length):=by
 have p:Hid (wT n=true):=by show _=_;simp[wT];omega
 have r:=aa (aq w.heap.size w);go_enter func61,ntmps61;go_wp2_with fail;refine(qm n _).mono ?_;rintro e G ⟨rfl,rfl⟩;rw[p.out];go_wp2
 go_loopw [0,3] (λv o wr=>∃(m f j:Nat),f<=3/\m<128^ (f+1)/\j+f=4/\v= .int .i64 m/\o= .int .i64 j/\(eP n).length+1=j+(ig f m).length/\abQ w wr) (λv _ _=>(intOf v).toNat)
 case atStart=>exact⟨n,3,1,by omega,by simp;omega,by omega,rfl,rfl,by show _=1+(eP n).length;omega,r.o⟩
 case round=>
  obtain⟨m,f,j,F,g,l,rfl,rfl,q,c⟩:=hrel;have k:=aa q;have d:=aa c;have i:=aa g;have t:=aa l
  have A:j<=4:=by omega
  have C:m<268435456:=by
   have:128^ (f+1)<=128^ 4:=df (by omega) (by omega);have E:(128:Nat) ^ 4=268435456:=by decide
   omega
  clear q c g l p;by_cases z:128<=m
  ·have y:(128:Int)<=(m:Int):=by omega
   have u:Hid (∃a,f=a+1/\m/ 128<128^ (a+1)/\(ig f m).length=1+(ig a (m/ 128)).length):=aa (by
    have b:=i.o;rcases dh f with rfl| h
    ·simp at b;omega
    ·obtain⟨a,rfl⟩:∃a,f=a+1:=⟨f- 1,by omega⟩;refine⟨a,rfl,?_,?_⟩
     ·rw[Nat.pow_succ]at b;exact iJ (by rw[eV];exact b)
     ·rw[ig,Fl (by omega),bM,Nat.add_comm])
   go_wp2;go_roundw
   case rel=>
    obtain⟨a,D,b,x⟩:=u.o;exact⟨m/ 128,a,j+1,by omega,b,by have:=t.o;omega,by simp,by simp,by rw[k.o,x];omega,d.o⟩
   case measure=>simp[intOf];omega
  ·have B:(m:Int)<128:=by omega
   have s:Hid ((eP n).length=j):=aa (by
    have:(ig f m).length=1:=by
     cases f with
     | zero=>rfl
     | succ f=>rw[ig,if_pos (by omega)];rfl
    have:=k.o;omega)
   go_wp2;go_ret;exact⟨by rw[s.o];rfl,d.o⟩
theorem rj(k f:Int)(w:abP):abT 60 #[.int .i64 k,.int .i64 f] w (.bool (eu k f)):=by
 by_cases a:k=3
 ·subst a;rw[show eu 3 f=gd f from if_pos rfl];exact oQ f w
 ·have b:Hid (eu k f=decide (f=gg k)):=aa (Fl a);have c:(k !=3)=true:=aA.2 a;clear a;go_enter func60,ntmps60;go_wp2_with fail;refine(oS k _).mono ?_;rintro e d ⟨rfl,rfl⟩;go_wp2;go_ret;refine⟨eT ?_,rfl⟩;rw[b.o];by_cases e:f=gg k<;>simp[e]
theorem vq(v k f:Int)(n:Nat)(w:abP)(hn:n<=268435455):abR 44 #[.int .i64 v,Cx ⟨k,f,n⟩] w (.int .i64 (ff v k f)):=by
 have h:Hid (ff v k f=if YG v=false then 2 else if dS v k=false then 8 else if eu k f=false then 7 else 0):=aa rfl;have c:=aa ((aq w.heap.size w).alloc (ac _) (.cells #[.int .i64 k,.int .i64 f,.int .i64 n] 61));have r:=aa hn;have l:Hid (0<(eP n).length):=aa (AN n);clear hn;show Calls _ _ #[.int .i64 v,.agg #[.int .i64 k,.int .i64 f,.int .i64 n]] _ _;go_enter func44,ntmps44;go_wp2_with fail;refine(j9 v _).mono ?_;rintro e i ⟨rfl,rfl⟩;cases a:YG v
 ·have b:Hid (ff v k f=2):=aa (by rw[h.o,if_pos a]);clear a;go_wp2;go_ret;exact⟨by rw[b.o];rfl,c.o⟩
 have d:Hid (ff v k f=if dS v k=false then 8 else if eu k f=false then 7 else 0):=aa (by rw[h.o,Fl (λx=>by rw[a]at x;cases x)]);clear a h;have t:(w.alloc (.cells #[.int .i64 k,.int .i64 f,.int .i64 n] 61)).cell? ⟨w.heap.size,0,none⟩=some (.int .i64 k):=(Bk.fresh w 61 _).cell 0;have u:(w.alloc (.cells #[.int .i64 k,.int .i64 f,.int .i64 n] 61)).cell? ⟨w.heap.size,1,none⟩=some (.int .i64 f):=(Bk.fresh w 61 _).cell 1;have y:(w.alloc (.cells #[.int .i64 k,.int .i64 f,.int .i64 n] 61)).cell? ⟨w.heap.size,2,none⟩=some (.int .i64 n):=(Bk.fresh w 61 _).cell 2;go_wp2_with fail;refine(lD v k _).mono ?_;rintro e i ⟨rfl,rfl⟩;cases a:dS v k
 ·have b:Hid (ff v k f=8):=aa (by rw[d.o,if_pos a]);clear a;go_wp2;go_ret;exact⟨by rw[b.o];rfl,c.o⟩
 have g:Hid (ff v k f=if eu k f=false then 7 else 0):=aa (by rw[d.o,Fl (λx=>by rw[a]at x;cases x)]);clear a d;go_wp2_with fail;refine(rj k f _).mono ?_;rintro e i ⟨rfl,rfl⟩;cases a:eu k f
 ·have b:Hid (ff v k f=7):=aa (by rw[g.o,if_pos a]);clear a;go_wp2;go_ret;exact⟨by rw[b.o];rfl,c.o⟩
 have b:Hid (ff v k f=0):=aa (by rw[g.o,Fl (λx=>by rw[a]at x;cases x)]);clear a g;go_wp2_with fail;refine Yg (tU n _ r.o) λi o=>?_;have j:=aa (Yf c.o o);clear o
 obtain⟨m,p⟩:∃m,(eP n).length=m:=⟨_,rfl⟩;have q:=l.o;rw[p]at q⊢;have s:((m:Int)==0)=false:=ar.2 (by omega);clear p l q;go_wp2;go_ret;exact⟨by rw[b.o];rfl,j.o⟩
theorem Wh(k f:Nat)(hk:k<=15)(hf:f<=15):IntKind.u64.wrap (bits BinOp.or IntKind.i64 ((k:Int)*16) (f:Int))=((16*k+f:Nat):Int):=by
 have a:=Wd (k*16) f (by omega) (by omega);have c:k*16 ||| f=16*k+f:=by
  have:=Nat.two_pow_add_eq_or_of_lt (i:=4) (b:=f) (by omega) k;rw[eV k 16];exact this.symm
 rw[show((k:Int)*16)=((k*16:Nat):Int) by omega,a,c];simp[IntKind.wrap,IntKind.bits,IntKind.signed];omega
def hdB(v k f:Int)(n:Nat):List UInt8×Int:=if ff v k f=0 then(hdS k f n,0)else([],ff v k f)
theorem Vj(v k f:Int)(n:Nat)(w:abP)(hn:n<=268435455):abR 52 #[.int .i64 v,Cx ⟨k,f,n⟩] w (.tuple #[.string ⟨(hdB v k f n).1.toArray⟩,.int .i64 (hdB v k f n).2]):=by
 have s:=aa ((aq w.heap.size w).alloc (ac _) (.cells #[.int .i64 k,.int .i64 f,.int .i64 n] 61));have t:=aa (Bk.fresh w 61 #[.int .i64 k,.int .i64 f,.int .i64 n]);have E:=aa hn;have i:=aa (λW=>vq v k f n W hn);clear hn;show Calls _ _ #[.int .i64 v,.agg #[.int .i64 k,.int .i64 f,.int .i64 n]] _ _;simp only[Cx]at i;go_enter func52,ntmps52;go_wp2_with fail;refine Yg (i.o _) λK a=>?_;have h:=aa (Yf s.o a);have d:=aa (t.o.below a t.o.lt);clear a s t i;by_cases g:ff v k f=0;rotate_left
 ·have u:Hid (hdB v k f n=([],ff v k f)):=aa (Fl g);generalize ff v k f=x at*;have H:(x !=0)=true:=aA.2 g;clear g;go_wp2;go_ret2;exact⟨by rw[u.o];rfl,h.o⟩
 have u:Hid (hdB v k f n=(hdS k f n,0)):=aa (if_pos g);obtain⟨F,B,C⟩:=Zc.1 g;have I:=vk B;have J:=rm C;rw[g];clear g F B C;obtain⟨c,rfl⟩:∃c:Nat,k=c:=⟨k.toNat,by omega⟩;obtain⟨b,rfl⟩:∃b:Nat,f=b:=⟨f.toNat,by omega⟩;have l:=d.o.cell 0;have o:=d.o.cell 1;have A:=d.o.cell 2
 simp only[ay,aE,aB]at l o A;go_wp2_with fail;refine Yg (mP n _ E.o) λL a=>?_;have p:=aa (Yf h.o a);have q:=aa (d.o.below a d.o.lt);clear a l o A;have l:=q.o.cell 0;have o:=q.o.cell 1
 simp only[ay,aE,aB]at l o;have r:=Wh c b (by omega) (by omega);have j:=aa (λW=>pD (16*c+b) 1 W (by omega) (by decide) (by decide));have z:Hid (hdS (c:Int) (b:Int) n=Yk (16*c+b) 1++eP n):=aa (by
  unfold hdS;rw[show(16*(c:Int)+(b:Int)).toNat=16*c+b by omega])
 obtain⟨m,D⟩:∃m,16*c+b=m:=⟨_,rfl⟩;rw[D]at r j z;clear D;go_wp2_with fail;refine Yg (j.o _) λM a=>?_;have y:=aa (Yf p.o a);have G:¬(9223372036854775807<(Yk m 1).length+(eP n).length):=by
  rw[fM];have:(eP n).length<=4:=mO 3 n;omega
 clear a l o r j;go_wp2;go_ret2;exact⟨by rw[u.o,z.o];rfl,y.o⟩
theorem ml{fn:Func}{p u u':Tmp}{ty:TypeId}(h:fn.results= #[.cell p ty,.tmp u,.tmp u'])(tmps:Array Value)(P:Program)(w:abP):
  (results fn tmps).run P w=((asAddr (tmps.getD p undef)).run P w).andThen λa w₁=>((loadVar ty a).run P w₁).andThen λv w₂=>.ok (.tuple #[v,tmps.getD u undef,tmps.getD u' undef]) w₂:=by
 simp only[results,h];simp[Sem.run_bind,Result.andThen]
theorem Gi{f n:Int}(hb:Bk w g 61 #[.int .i64 k,.int .i64 f,.int .i64 n]):(loadVar 61 ⟨g,0,none⟩).run prog w= .ok (.agg #[.int .i64 k,.int .i64 f,.int .i64 n]) w:=
 run_loadVar_row w g 61 61 _ (0,0) _ hb underlying61 rfl (by kernel_rfl)
theorem jF{fn:Func}{p u u':Tmp}(hr:fn.results= #[.cell p 61,.tmp u,.tmp u'])(tmps:Array Value){f n:Int}(hp:tmps.getD p undef= .pointer (some ⟨g,0,none⟩))(hb:Bk w g 61 #[.int .i64 k,.int .i64 f,.int .i64 n]):
  (results fn tmps).run prog w= .ok (.tuple #[.agg #[.int .i64 k,.int .i64 f,.int .i64 n],tmps.getD u undef,tmps.getD u' undef]) w:=by
 rw[ml hr,hp];exact kG _ (⟨g,0,none⟩:Addr) w _ rfl |>.trans (kG _ _ w _ (Gi hb))
theorem Gw(b:UInt8):bits BinOp.and IntKind.u8 (b.toNat:Int) 15=((b.toNat% 16:Nat):Int):=by
 have h:=aat b 15;rw[show((15:UInt8).toNat:Int)=15 from rfl]at h;rw[h,UInt8.toNat_and,show(15:UInt8).toNat=2^ 4- 1 from rfl,kC]
theorem qy(v:Int)(s:abO)(w:abP)(hs:s.size<=4611686018427387904):abR 29 #[.int .i64 v,.string s] w (.tuple #[Cx (hdR v s).1,.int .i64 ((hdR v s).2.1:Nat),.int .i64 (hdR v s).2.2]):=by
 have B:Hid (hdR v s=if YG v=false then(lC,0,2)
  else if s.size=0 then(lC,0,3)
  else if ff v (YW s/ 16:Nat) (YW s% 16:Nat)≠0 then(lC,0,ff v (YW s/ 16:Nat) (YW s% 16:Nat))
  else if(YT (ls (s.extract 1 s.size))).2.2≠0 then(lC,0,(YT (ls (s.extract 1 s.size))).2.2)
  else(⟨(YW s/ 16:Nat),(YW s% 16:Nat),(YT (ls (s.extract 1 s.size))).1⟩,(YT (ls (s.extract 1 s.size))).2.1+1,0)):=aa rfl
 have M:=aa ((aq w.heap.size w).alloc (ac _) (.cells #[.int .i64 0,.int .i64 0,.int .i64 0] 61));have N:=aa (Bk.fresh w 61 #[.int .i64 0,.int .i64 0,.int .i64 0]);have Q:=aa hs;clear hs;go_enter func29,ntmps29;go_wp2_with fail;refine(j9 v _).mono ?_;rintro e w1 ⟨rfl,rfl⟩;cases u:YG v
 ·have i:Hid (hdR v s=(lC,0,2)):=aa (by rw[B.o,if_pos u]);clear u;go_wp2;refine abZ (jF rfl _ rfl N.o) rfl ?_;exact⟨by rw[i.o];rfl,M.o⟩
 by_cases q:s.size=0
 ·have i:Hid (hdR v s=(lC,0,3)):=aa (by rw[B.o,Fl (λx=>by rw[u]at x;cases x),if_pos q]);have C:=kR s;rw[au q]at C;clear u q;go_wp2;refine abZ (jF rfl _ rfl N.o) rfl ?_;exact⟨by rw[i.o];rfl,M.o⟩
 have D:0<s.size:=by omega
 obtain⟨b,g⟩:∃b,s[0]'D=b:=⟨_,rfl⟩;have G:Hid (YW s=b.toNat):=aa (by
  unfold YW;rw[List.headD_eq_head?_getD,List.head?_eq_getElem?,List.getElem?_eq_getElem (by rw[aN];omega),uY s 0 (by omega),g];rfl)
 have H:Hid (hdR v s=if ff v (YW s/ 16:Nat) (YW s% 16:Nat)≠0 then(lC,0,ff v (YW s/ 16:Nat) (YW s% 16:Nat))
  else if(YT (ls (s.extract 1 s.size))).2.2≠0 then(lC,0,(YT (ls (s.extract 1 s.size))).2.2)
  else(⟨(YW s/ 16:Nat),(YW s% 16:Nat),(YT (ls (s.extract 1 s.size))).1⟩,(YT (ls (s.extract 1 s.size))).2.1+1,0)):=aa (by rw[B.o,Fl (λx=>by rw[u]at x;cases x),Fl q])
 have Z:(0:Int)<(s.size:Int):=by omega
 have C:=kR s;rw[ah q]at C;have S:=Gw b;have R:=b.toNat_lt;have O:Hid (1<=s.size):=aa (by omega);clear u B q;go_wp2_with fail;go_region;have J:Hid (∃d c:Nat,b.toNat/ 16=d/\b.toNat% 16=c):=aa ⟨_,_,rfl,rfl⟩;obtain⟨d,c,L,K⟩:=J.o;rw[show((b.toNat:Int) / 16)=(d:Int) by omega,show((b.toNat:Int) % 16)=(c:Int) by omega];have l:Hid (hdR v s=if ff v d c≠0 then(lC,0,ff v d c)
  else if(YT (ls (s.extract 1 s.size))).2.2≠0 then(lC,0,(YT (ls (s.extract 1 s.size))).2.2)
  else(⟨d,c,(YT (ls (s.extract 1 s.size))).1⟩,(YT (ls (s.extract 1 s.size))).2.1+1,0)):=aa (by rw[H.o,G.o,L,K])
 have y:=aa (aV ((aq w.heap.size w).alloc (ac _) (.cells #[.int .i64 d,.int .i64 c,.int .i64 0] 61)) 1);have h:=aa ((Bk.fresh w 61 #[.int .i64 d,.int .i64 c,.int .i64 0]).drewN 1);have z:=aa (λW=>vq v d c 0 W (by omega));simp only[Cx]at z;clear J H G L K S g R N M C;have n:=h.o.cell 0;have o:=h.o.cell 1;have p:=h.o.cell 2
 simp only[ay,aE,aB]at n o p;go_wp2_with fail;refine Yg (z.o _) λw1 g=>?_;have k:=aa (Yf y.o g);have a:=aa (h.o.below g h.o.lt);clear g n o p z h y;by_cases t:ff v d c=0;rotate_left
 ·have i:Hid (hdR v s=(lC,0,ff v d c)):=aa (by rw[l.o,if_pos t]);generalize ff v d c=x at*;have V:(x !=0)=true:=aA.2 t;clear t l;have n:=a.o.cell 0;have o:=a.o.cell 1;have p:=a.o.cell 2
  have X:=a.o.free 0;have f1:=a.o.free 1;have Y:=a.o.free 2
  simp only[ay,aE,aB]at n o p;go_wp2;refine abZ (jF rfl _ rfl (((a.o.put 0 (.int .i64 0)).put 1 (.int .i64 0)).put 2 (.int .i64 0))) rfl ?_;exact⟨by rw[i.o];rfl,((k.o.setCell (ac _) _).setCell (ac _) _).setCell (ac _) _⟩
 rw[t];have j:Hid (hdR v s=if(YT (ls (s.extract 1 s.size))).2.2≠0 then(lC,0,(YT (ls (s.extract 1 s.size))).2.2)
  else(⟨d,c,(YT (ls (s.extract 1 s.size))).1⟩,(YT (ls (s.extract 1 s.size))).2.1+1,0)):=aa (by rw[l.o,Fl (λx=>x t)])
 clear t l;have v1:(0:Int)<=1:=by decide
 have v2:(1:Int)<=(s.size:Int):=by have:=O.o;omega
 have I:=aa (λW=>nO (s.extract 1 s.size) W (by rw[aj];have:=Q.o;omega));have m:=aa (jH (ls (s.extract 1 s.size)));rw[aN,aj]at m;go_wp2_with fail;refine Yg (I.o _) λw2 g=>?_;have F:=aa (Yf k.o g);have f:=aa (a.o.below g a.o.lt);clear g I a k;obtain⟨⟨E,U,P⟩,T⟩:∃r,YT (ls (s.extract 1 s.size))=r:=⟨_,rfl⟩;rw[T]at j m⊢;dsimp only at m⊢;clear T;have n:=f.o.cell 0;have o:=f.o.cell 1;have p:=f.o.cell 2
 have X:=f.o.free 0;have f1:=f.o.free 1;have Y:=f.o.free 2
 simp only[ay,aE,aB]at n o p;by_cases A:P=0
 ·have i:Hid (hdR v s=(⟨d,c,E⟩,U+1,0)):=aa (by rw[j.o,Fl (λx=>x A)]);subst A;have ad:(U:Int)<9223372036854775806:=by have:=m.o;have:=Q.o;omega
  clear j;go_wp2;refine abZ (jF rfl _ rfl ((((f.o.put 2 (.int .i64 E)).put 0 (.int .i64 d)).put 1 (.int .i64 c)).put 2 (.int .i64 E))) rfl ?_;exact⟨by rw[i.o];rfl,(((F.o.setCell (ac _) _).setCell (ac _) _).setCell (ac _) _).setCell (ac _) _⟩
 ·have i:Hid (hdR v s=(lC,0,P)):=aa (by rw[j.o,if_pos A]);have V:(P !=0)=true:=aA.2 A;clear j A;go_wp2;refine abZ (jF rfl _ rfl ((((f.o.put 2 (.int .i64 E)).put 0 (.int .i64 0)).put 1 (.int .i64 0)).put 2 (.int .i64 0))) rfl ?_;exact⟨by rw[i.o];rfl,(((F.o.setCell (ac _) _).setCell (ac _) _).setCell (ac _) _).setCell (ac _) _⟩
def fnB(f:FuncId):Value:=.func (.func f) #[.agg #[]] #[]
def mC:List (Int×Value):=[(12,fnB 234),(13,fnB 234),(14,fnB 235),(15,fnB 235)]
theorem ab6(v:Int)(w:abP):abR 234 #[.agg #[],.int .i64 v] w (.bool false):=by
 go_enter func234,ntmps234;go_wp2;go_ret;exact⟨rfl,(aq _ _).alloc (ac _) _⟩
theorem vi(v:Int)(w:abP):abR 235 #[.agg #[],.int .i64 v] w (.bool (v==5)):=by
 go_enter func235,ntmps235;go_wp2;go_ret;exact⟨rfl,(aq _ _).alloc (ac _) _⟩
theorem ro(args:Array Value)(w:abP):(callFunc 234 args).run prog w= .ok (.enter 234 args) w:=dv func234 (by kernel_rfl) rfl args w
theorem xp(args:Array Value)(w:abP):(callFunc 235 args).run prog w= .ok (.enter 235 args) w:=dv func235 (by kernel_rfl) rfl args w
theorem Co(k:Int):(k=12/\ia mC k=some (fnB 234))\/(k=13/\ia mC k=some (fnB 234))\/(k=14/\ia mC k=some (fnB 235))\/(k=15/\ia mC k=some (fnB 235))\/
  (¬(12<=k/\k<=15)/\ia mC k=none):=by
 by_cases e:k=12
 ·subst e;exact .inl ⟨rfl,rfl⟩
 by_cases f:k=13
 ·subst f;exact .inr (.inl ⟨rfl,rfl⟩)
 by_cases g:k=14
 ·subst g;exact .inr (.inr (.inl ⟨rfl,rfl⟩))
 by_cases h:k=15
 ·subst h;exact .inr (.inr (.inr (.inl ⟨rfl,rfl⟩)))
 refine .inr (.inr (.inr (.inr ⟨by omega,?_⟩)));have a:((12:Int)==k)=false:=ar.2 (by omega);have b:((13:Int)==k)=false:=ar.2 (by omega);have c:((14:Int)==k)=false:=ar.2 (by omega);have d:((15:Int)==k)=false:=ar.2 (by omega);simp[ia,mC,List.find?,a,b,c,d]
theorem pQ(v k:Int)(w:abP):abR 171 #[.int .i64 v,.int .i64 k] w (.tuple #[.bool (fO v k),.bool (qH k)]):=by
 have r:=@run_makeMap prog;have j:=(aq w.heap.size w).alloc (ac _) (.cells #[] 206);have g:=aa (yq (w.alloc (.cells #[] 206)) .i64);have c:=aa (j.alloc j.size (.map #[] 0));clear j;rw[show(w.alloc (.cells #[] 206)).heap.size=w.heap.size+1 by simp]at g;go_enter func171,ntmps171;go_wp2_with (refine lc _ rfl _ _ _ 207 rfl 3 52 (by kernel_rfl) (by kernel_rfl) (w.heap.size+1) _ rfl g.o _ _ rfl rfl rfl ?_;intro y l m;have d:=c.o.grown m (c.o.size) (λk b=>by cases b;exact IT _);clear g c m;have g:=aa l;have c:=aa d;clear l d);rename_i A;have i:fQ .i64 _ (w.heap.size+1) mC:=g.o;have a:=(nY (P:=prog) (t:=207) (k:=3) (e:=52) (z:=.nilFunc) (by kernel_rfl) (by kernel_rfl) (by kernel_rfl) i k).2;have u:=ro;have s:=xp;clear i;rcases Co k with ⟨b,h⟩ | ⟨b,h⟩ | ⟨b,h⟩ | ⟨b,h⟩ | ⟨b,h⟩
 ·subst b;rw[h,kB,mh,fnB]at a;clear h;go_wp2_with fail;rw[a];go_wp2_with fail;refine Yg (ab6 v _) λn d=>?_;have f:=aa (Yf c.o d);clear d a
  go_wp2;go_ret2;exact⟨by rfl,f.o⟩
 ·subst b;rw[h,kB,mh,fnB]at a;clear h;go_wp2_with fail;rw[a];go_wp2_with fail;refine Yg (ab6 v _) λn d=>?_;have f:=aa (Yf c.o d);clear d a
  go_wp2;go_ret2;exact⟨by rfl,f.o⟩
 rotate_left;rotate_left
 ·have o:qH k=false:=ah b;have p:fO v k=false:=ah (λx=>b (by omega));rw[h,Option.getD_none,Option.isSome_none]at a;clear h b;go_wp2_with fail;rw[a];go_wp2;go_ret2;exact⟨by rw[o,p];rfl,c.o⟩
 all_goals
  subst b;rw[h,kB,mh,fnB]at a;clear h;go_wp2_with fail;rw[a];go_wp2_with fail;refine Yg (vi v _) λn d=>?_;have f:=aa (Yf c.o d);clear d a
  go_wp2;go_ret2;exact⟨by unfold fO qH;by_cases q:v=5<;>simp[q],f.o⟩
theorem nk(v k:Int)(w:abP):abR 170 #[.int .i64 v,.int .i64 k] w (.int .i64 (jR v k)):=by
 go_enter func170,ntmps170;go_wp2_with fail;refine Yg (pQ v k _) λo l=>?_;have f:=aa l;clear l
 have h:Hid (jR v k=if qH k=false\/¬(v=4\/v=5)then 2 else if k=15/\v=4 then 8 else 0):=aa rfl;cases d:qH k
 ·have c:Hid (jR v k=2):=aa (by rw[h.o,if_pos (.inl d)]);clear d;go_wp2;go_ret;exact⟨by rw[c.o];rfl,f.o⟩
 ·by_cases b:v=4
  ·have m:(v !=4)=false:=by simpa using b
   have j:(v==4)=true:=aK.2 b;by_cases a:k=15
   ·have c:Hid (jR v k=8):=aa (by rw[h.o,Fl (λx=>x.elim (λy=>by rw[d]at y;cases y) (λy=>y (.inl b))),if_pos ⟨a,b⟩]);have i:(k==15)=true:=aK.2 a;clear b a d;go_wp2;go_ret;exact⟨by rw[c.o];rfl,f.o⟩
   ·have c:Hid (jR v k=0):=aa (by rw[h.o,Fl (λx=>x.elim (λy=>by rw[d]at y;cases y) (λy=>y (.inl b))),Fl (λx=>a x.1)]);have i:(k==15)=false:=ar.2 a;clear b a d;go_wp2;go_ret;exact⟨by rw[c.o];rfl,f.o⟩
  ·have m:(v !=4)=true:=aA.2 b;have j:(v==4)=false:=ar.2 b;by_cases g:v=5
   ·have n:(v !=5)=false:=by simpa using g
    have c:Hid (jR v k=0):=aa (by rw[h.o,Fl (λx=>x.elim (λy=>by rw[d]at y;cases y) (λy=>y (.inr g))),Fl (λx=>b x.2)]);clear b g d;by_cases a:k=15
    ·have i:(k==15)=true:=aK.2 a;clear a;go_wp2;go_ret;exact⟨by rw[c.o];rfl,f.o⟩
    ·have i:(k==15)=false:=ar.2 a;clear a;go_wp2;go_ret;exact⟨by rw[c.o];rfl,f.o⟩
   ·have n:(v !=5)=true:=aA.2 g;have c:Hid (jR v k=2):=aa (by rw[h.o,if_pos (.inr (λx=>x.elim b g))]);clear b g d;go_wp2;go_ret;exact⟨by rw[c.o];rfl,f.o⟩
theorem Vw(code k:Int)(l:List Pr)(n:Nat)(hn:l.length=n)(hok:∀p∈l,qc p)(A:Option Addr)(c:Nat)(w:abP)(h:Rd w w.heap.size 4 A n (prs l))(hl:n<=4611686018427387904):
  abR 169 #[.int .i64 code,.slice A n c,.int .i64 k] w (.string ⟨(xV code l k).toArray⟩):=by
 subst hn;have r:Hid (xV code l k=if code<0\/255<code\/(aM k l).2≠0 then []else oG k code l):=aa rfl;go_enter func169,ntmps169;go_wp2_with fail;refine Yg (UB k l _ rfl hok A c _ h hl) λK q=>?_;have g:=aa q;clear q h hok
 by_cases f:code<0
 ·have a:Hid (xV code l k=[]):=aa (by rw[r.o,if_pos (.inl f)]);go_wp2;go_ret;exact⟨by rw[a.o];rfl,g.o⟩
 have B:decide (code<0)=false:=ah f;have t:0<=code:=by omega
 by_cases o:255<code
 ·have a:Hid (xV code l k=[]):=aa (by rw[r.o,if_pos (.inr (.inl o))]);clear f;go_wp2;go_ret;exact⟨by rw[a.o];rfl,g.o⟩
 have H:decide (255<code)=false:=ah o;have F:code<=255:=by omega
 by_cases b:(aM k l).2=0;rotate_left
 ·have a:Hid (xV code l k=[]):=aa (by rw[r.o,if_pos (.inr (.inr b))]);have I:((aM k l).2 !=0)=true:=aA.2 b;clear f o b;go_wp2;go_ret;exact⟨by rw[a.o];rfl,g.o⟩
 have a:Hid (xV code l k=oG k code l):=aa (by rw[r.o,Fl (λx=>x.elim f (λy=>y.elim o (λz=>z b)))]);have v:=aa (G6 k l b).2;rw[b];obtain⟨m,u,J⟩:∃m:Nat,Hid (code.toNat=m)/\IntKind.u64.wrap code=(m:Int):=⟨_,aa rfl,by rw[iZ];omega⟩;have C:Hid (m<256):=aa (by have:=u.out;omega);clear f o b;go_wp2_with fail;refine Yg (pD m 1 _ (by have:=C.o;omega) (by omega) (by omega)) λL q=>?_;have i:=aa (Yf g.o q);clear q
 by_cases d:l.length=0
 ·have D:(l.length:Int)<=0:=by omega
  by_cases s:code=0
  ·have j:Hid (xV code l k=[]):=aa (by rw[a.o,oG,if_pos ⟨s,d⟩]);have E:code<=0:=by omega
   clear d s t B;go_wp2;go_ret;exact⟨by rw[j.o];rfl,i.o⟩
  ·have j:Hid (xV code l k=Yk m 1):=aa (by rw[a.o,oG,Fl (λx=>s x.1),if_pos d,YO,u.out]);have E:0<code:=by omega
   clear d s t B;go_wp2;go_ret;exact⟨by rw[j.o];rfl,i.o⟩
 ·have D:0<(l.length:Int):=by omega
  have j:Hid (xV code l k=Yk m 1++(aM k l).1):=aa (by rw[a.o,oG,Fl (λx=>d x.2),Fl d,u.out]);have G:¬(9223372036854775807<(Yk m 1).length+(aM k l).fst.length):=by rw[fM];have:=v.o;omega
  clear d;go_wp2;go_ret;exact⟨by rw[j.o,<-ap2];rfl,i.o⟩
def tL(r:Int×List Pr×Int)(w:abP)(e:Ending)(w':abP):Prop:=∃A c,e= .returned (.tuple #[.int .i64 r.1,.slice A r.2.1.length c,.int .i64 r.2.2])/\r.2.1.length<=c/\Rd w' w'.heap.size 4 A r.2.1.length (prs r.2.1)/\abQ w w'
theorem iP{r:Int×List Pr×Int}{x y:Int}(h:r=(x,[],y))(hb:abQ w w'):tL r w (.returned (.tuple #[.int .i64 x,.slice none 0 0,.int .i64 y])) w':=by
 subst h;exact⟨none,0,rfl,ac _,Rd.nil _ _ _ _,hb⟩
theorem wg{r:Int×List Pr×Int}{x:Int}{l:List Pr}{c:Nat}(h:r=(x,l,0))(hc:l.length<=c)(hr:Rd w' w'.heap.size 4 A l.length (prs l))(hb:abQ w w'):tL r w (.returned (.tuple #[.int .i64 x,.slice A l.length c,.int .i64 0])) w':=by
 subst h;exact⟨A,c,rfl,hc,hr,hb⟩
theorem FA(t:abO)(a:Nat)(h:a<t.size):br t a 0 1=t[a].toNat:=by
 have b:=sc (t:=t) (a:=a) (k:=1) (x:=[t[a]]) (rest:=(ls t).drop (a+1)) (by
  rw[bQ (show a<(ls t).length by rw[aN];exact h),uY t a h];rfl) rfl (by omega)
 rw[show((1:Int))=((1:Nat):Int)from rfl,b];simp[YZ]
theorem Yv(s:abO):s.toList.isEmpty=decide (s.size=0):=by
 cases a:s.toList.isEmpty
 ·exact(ah (λx=>by
   have:s=⟨#[]⟩:=eX (by rw[show ls (⟨#[]⟩:abO)=[]from rfl];exact aF (by rw[aN];exact x));rw[this]at a;exact absurd a (by decide+kernel))).symm
 ·exact(au (mL a)).symm
theorem AQ(k:Int)(s:abO)(w:abP)(hs:s.size<=140737488351232):
  Calls prog 172 #[.int .i64 k,.string s] w (tL (iO k s) w):=by
 have h:Hid (iO k s=if pK k s≠0 then(0,[],pK k s)else((dg k s 0).1,(dg k s 0).2.1,0)):=aa rfl;have i:Hid (pK k s=if(dg k s 0).2.2.2≠0 then(dg k s 0).2.2.2 else if(dg k s 0).2.2.1<s.size then 5 else 0):=aa rfl;have C:=Yv s;by_cases f:s.size=0
 ·have b:dg k s 0=(0,[],0,0):=by unfold dg;rw[if_pos (by omega)]
  have a:Hid (iO k s=(0,[],0)):=aa (by rw[h.o,i.o,b];simp[f]);rw[au f]at C;clear f b hs;go_enter func172,ntmps172;go_wp2;go_ret3;exact iP a.o (aq _ _)
 rw[ah f]at C;have P:(0:Int)<(s.size:Int):=by omega
 have B:0<s.size:=by omega
 have m:=aa (FA s 0 B);obtain⟨d,I⟩:∃d:UInt8,s[0]'B=d:=⟨_,rfl⟩;rw[I]at m;have K:IntKind.i64.wrap (d.toNat:Int)=(d.toNat:Int):=by rw[aQ];have:=d.toNat_lt;omega
 by_cases t:s.size=1
 ·have b:dg k s 0=(((d.toNat:Nat):Int),[],1,if d.toNat=0 then 5 else 0):=by unfold dg;rw[Fl (by omega),if_pos (by omega),m.o]
  have J:((s.size:Int)==1)=true:=aK.2 (by omega);by_cases u:d.toNat=0
  ·have a:Hid (iO k s=(0,[],5)):=aa (by rw[h.o,i.o,b];simp[u]);have E:((d.toNat:Int)==0)=true:=aK.2 (by omega);clear f b hs t u m;go_enter func172,ntmps172;go_wp2;go_ret3;exact iP a.o (aq _ _)
  ·have a:Hid (iO k s=((d.toNat:Int),[],0)):=aa (by rw[h.o,i.o,b];simp[u,t]);have E:((d.toNat:Int)==0)=false:=ar.2 (by omega);clear f b hs t u m;go_enter func172,ntmps172;go_wp2;go_ret3;exact iP a.o (aq _ _)
 ·have b:dg k s 0=(((d.toNat:Nat):Int),(aZ k (s.extract 1 s.size)).1,1+(aZ k (s.extract 1 s.size)).2.1,
   if(aZ k (s.extract 1 s.size)).2.2≠0 then(aZ k (s.extract 1 s.size)).2.2 else if(aZ k (s.extract 1 s.size)).1.length=0 then 5 else 0):=by unfold dg;rw[Fl (by omega),Fl (by omega),m.o,bV]
  have J:((s.size:Int)==1)=false:=ar.2 (by omega);have Q:(1:Int)<=(s.size:Int):=by omega
  have F:Hid ((s.extract 1 s.size).size<=140737488351232):=aa (by rw[lk];omega);have g:=aa b;have N:=aa hs;have y:Hid ((aZ k (s.extract 1 s.size)).2.2=0->(aZ k (s.extract 1 s.size)).2.1<=(s.extract 1 s.size).size):=aa λf=>
   (fd (kind:=k) (s:=s.extract 1 s.size) (l:=(aZ k (s.extract 1 s.size)).1) (n:=(aZ k (s.extract 1 s.size)).2.1) (by rw[<-f])).2.2
  clear f b hs t m;go_enter func172,ntmps172;go_wp2_with fail;refine(Zf k (s.extract 1 s.size) _ F.o).mono ?_;rintro e S ⟨A,c,rfl,q,D,G⟩;have r:=aa G;have p:=aa q;have z:=aa D
  clear G q D;generalize aZ k (s.extract 1 s.size)=R at*;obtain⟨l,n,x⟩:=R;simp only at g p z y⊢;by_cases v:x=0
  ·subst v;have L:=y.o rfl;have M:IntKind.i64.wrap (1+(n:Int))=1+(n:Int):=by rw[aQ];have:=F.o;omega
   by_cases o:l.length=0
   ·have E:((l.length:Int)==0)=true:=aK.2 (by omega);have a:Hid (iO k s=(0,[],5)):=aa (by rw[h.o,i.o,g.o];simp[o]);clear o;go_wp2;go_ret3;exact iP a.o r.o
   ·have E:((l.length:Int)==0)=false:=ar.2 (by omega);by_cases j:1+n<s.size
    ·have a:Hid (iO k s=(0,[],5)):=aa (by rw[h.o,i.o,g.o];simp[o,j]);have H:1+(n:Int)<(s.size:Int):=by omega
     clear o j;go_wp2;go_ret3;exact iP a.o r.o
    ·have a:Hid (iO k s=((d.toNat:Int),l,0)):=aa (by rw[h.o,i.o,g.o];simp[o,j]);have H:(s.size:Int)<=1+(n:Int):=by omega
     clear o j;go_wp2;go_ret3;exact wg a.o p.o z.o r.o
  ·have O:(x !=0)=true:=aA.2 v;have a:Hid (iO k s=(0,[],x)):=aa (by rw[h.o,i.o,g.o];simp[v]);clear v;go_wp2;go_ret3;exact iP a.o r.o
section
theorem yP(k:Int):({pk0 with kind:=k}:Pk)=aP k 0 0 []:=rfl
theorem EP{B:Nat}(x:PkIn w B p h):PkIn w B (aP p.kind 0 p.code p.props) (vU h):=⟨Rd.nil _ _ _ _,Rd.nil _ _ _ _,Rd.nil _ _ _ _,x.props,ag _,ag _,ag _,x.caps.2.2.2⟩
theorem Df(x:gz p):gz (aP p.kind 0 p.code p.props):=⟨ag _,ag _,ag _,x.2.2.2⟩
theorem vH{c:Int}{l:List Pr}{n:Nat}(h:Bk w g PkT (pkC (aP k 0 0 []) hs0)):Bk ((w.setCell ⟨g,21,none⟩ (.int .i64 c)).setCell ⟨g,24,none⟩ (.slice A l.length n)) g PkT (pkC (aP k 0 c l) {hs0 with props:=⟨A,n⟩}):=
 (h.upd 21 _ (td k 0 0 c [] hs0)).upd 24 _ (uT k 0 c [] l A n hs0)
theorem St.conQ{g0:Nat}(s:St w [(g0,p,h),(g,aP p.kind 0 0 [],hs0)] x)(ip:PkIn w w.heap.size p h)(hne:g0≠g):
  St w [(g0,p,h),(g,aP p.kind 0 p.code p.props,vU h)] ((x.setCell ⟨g,21,none⟩ (.int .i64 p.code)).setCell ⟨g,24,none⟩ (.slice h.props.a p.props.length h.props.c)):=by
 have d:=(s.pks 1 g _ _ rfl).1;have f:=(YR x g 21 (.int .i64 p.code)).trans (YR _ g 24 (.slice h.props.a p.props.length h.props.c));have b:abQ w ((x.setCell ⟨g,21,none⟩ (.int .i64 p.code)).setCell ⟨g,24,none⟩ (.slice h.props.a p.props.length h.props.c)):=dw s.kept f s.kept.size d;refine⟨b,λi j q k e=>?_⟩;rcases i with _| _| i
 ·simp only[aB,aX,bG]at e;obtain⟨rfl,rfl,rfl⟩:=e;exact⟨(s.pks 0 g0 p h rfl).1,((s.bk 0 rfl).other hne _).other hne _,(ip.below b).wider b.size⟩
 ·simp only[aE,aB,aX,bG]at e;obtain⟨rfl,rfl,rfl⟩:=e;exact⟨d,vH (s.bk 1 rfl),EP ((ip.below b).wider b.size)⟩
 ·simp at e
theorem nj(v:Int)(p:Pk)(h:Hs)(w:abP)(ip:PkIn w w.heap.size p h)(ok:PkOk p):
  abR 168 #[.int .i64 v,pkV p h] w (.int .i64 (fH v p)):=by
 have m:=aa ok;have L:=aa ip;have M:=aa ((St.start w).push ip);have F:Hid (fH v p=if jR v p.kind≠0 then jR v p.kind else if fO v p.kind=true/\may p.kind p.code=false then 2 else if p≠conQ v p then 2 else(aM p.kind p.props).2):=aa rfl;clear ip ok;go_enter func168,ntmps168;go_wp2_with fail;refine Yg (nk v p.kind _) λl b=>?_;have r:=aa (M.o.below b);clear b
 by_cases o:jR v p.kind=0;rotate_left
 ·have g:Hid (fH v p=jR v p.kind):=aa (by rw[F.o,if_pos o]);have T:(jR v p.kind !=0)=true:=aA.2 o;clear o;go_wp2;go_ret;exact⟨by rw[g.o];rfl,r.o.kept⟩
 have B:Hid (fH v p=if fO v p.kind=true/\may p.kind p.code=false then 2 else if p≠conQ v p then 2 else(aM p.kind p.props).2):=aa (by rw[F.o,Fl (λx=>x o)]);rw[o];clear o;have H:=r.o.cell 0 rfl 0;rw[cI]at H;have G:Hid (St w [(w.heap.size,p,h),(l.heap.size,aP p.kind 0 0 [],hs0)] (l.alloc (.cells (pkC (aP p.kind 0 0 []) hs0) PkT))):=aa (r.o.push (qs (Rd.nil _ _ _ _) (ag _) _ _ _));have S:(l.alloc (.cells (pkC {pk0 with kind:=p.kind} hs0) PkT)).cell? ⟨w.heap.size,0,none⟩=some (.int .i64 p.kind):=(G.o.cell 0 rfl 0).trans (cI _ _);go_wp2_with fail;rw[yP];refine Yg (pQ v p.kind _) λU b=>?_;have j:=aa (G.o.below b);clear b H S
 cases q:fO v p.kind
 ·have E:Hid (conQ v p=aP p.kind 0 0 []):=aa (by unfold conQ;rw[Fl (by rw[q];decide)]);have i:Hid (fH v p=if p≠aP p.kind 0 0 []then 2 else(aM p.kind p.props).2):=aa (by rw[B.o,Fl (λx=>by rw[q]at x;cases x.1),E.o]);have t:=j.o.ld 0 rfl;have u:=j.o.ld 1 rfl;clear q;go_wp2_with fail;refine Yg (jE p (aP p.kind 0 0 []) h hs0 _ (j.o.into 0 rfl) (j.o.into 1 rfl) m.o.len ⟨ag _,ag _,ag _,ag _⟩) λA b=>?_;have d:=aa (j.o.below b);clear b t u
  by_cases f:p=aP p.kind 0 0 []
  ·rw[au f];have g:Hid (fH v p=(aM p.kind p.props).2):=aa (by rw[i.o,Fl (λx=>x f)]);have k:=d.o.cell 0 rfl 0;rw[cI]at k;have y:=d.o.cell 0 rfl 24;rw[bR]at y;clear f;go_wp2_with fail;refine Yg (gu p.kind p.props _ rfl m.o.props h.props.a h.props.c _ (d.o.into 0 rfl).props m.o.len.2.2.2) λV b=>?_;have n:=aa (d.o.below b);clear b k y
   go_wp2;go_ret;exact⟨by rw[g.o];rfl,n.o.kept⟩
  ·rw[ah f];have g:Hid (fH v p=2):=aa (by rw[i.o,if_pos f]);clear f;go_wp2;go_ret;exact⟨by rw[g.o];rfl,d.o.kept⟩
 ·have E:Hid (conQ v p=aP p.kind 0 p.code p.props):=aa (by unfold conQ;rw[if_pos q]);have i:Hid (fH v p=if may p.kind p.code=false then 2 else if p≠aP p.kind 0 p.code p.props then 2 else(aM p.kind p.props).2):=aa (by rw[B.o,E.o,q];simp);have I:=j.o.cell 0 rfl 0;rw[cI]at I;have k:=j.o.cell 0 rfl 21;rw[YB]at k;clear q;go_wp2_with fail;refine Yg (m7 p.kind p.code _) λA b=>?_;have d:=aa (j.o.below b);clear b I k
  cases z:may p.kind p.code
  ·have g:Hid (fH v p=2):=aa (by rw[i.o,if_pos z]);clear z;go_wp2;go_ret;exact⟨by rw[g.o];rfl,d.o.kept⟩
  have C:Hid (fH v p=if p≠aP p.kind 0 p.code p.props then 2 else(aM p.kind p.props).2):=aa (by rw[i.o,Fl (by rw[z];decide)]);have k:=d.o.cell 0 rfl 21;rw[YB]at k;have y:=d.o.cell 0 rfl 24;rw[bR]at y;have Q:A.cell? ⟨l.heap.size,21,none⟩=some (.int .i64 0):=d.o.cell 1 rfl 21;have R:A.cell? ⟨l.heap.size,24,none⟩=some (.slice none 0 0):=d.o.cell 1 rfl 24;have O:=(d.o.bk 1 rfl).free 21;have P:=(d.o.bk 1 rfl).free 24;have D:(w.heap.size==l.heap.size)=false:=ar.2 (by have:=r.o.kept.size;have:=(r.o.bk 0 rfl).lt;omega);clear z;go_wp2_with fail;go_region;have n:=aa ((d.o.conQ L.o (by simpa using D)).drew);have t:=n.o.ld 0 rfl;have u:=n.o.ld 1 rfl;clear k y Q R O P D;generalize ((A.setCell ⟨l.heap.size,21,none⟩ (.int .i64 p.code)).setCell ⟨l.heap.size,24,none⟩ (.slice h.props.a p.props.length h.props.c)).drew=w5 at*;go_wp2_with fail;refine Yg (jE p (aP p.kind 0 p.code p.props) h (vU h) _ (n.o.into 0 rfl) (n.o.into 1 rfl) m.o.len (Df m.o.len)) λW b=>?_;have s:=aa (n.o.below b);clear b t u
  by_cases f:p=aP p.kind 0 p.code p.props
  ·rw[au f];have g:Hid (fH v p=(aM p.kind p.props).2):=aa (by rw[C.o,Fl (λx=>x f)]);have J:=s.o.cell 0 rfl 0;rw[cI]at J;have K:=s.o.cell 0 rfl 24;rw[bR]at K;clear f;go_wp2_with fail;refine Yg (gu p.kind p.props _ rfl m.o.props h.props.a h.props.c _ (s.o.into 0 rfl).props m.o.len.2.2.2) λX b=>?_;have N:=aa (s.o.below b);clear b J K
   go_wp2;go_ret;exact⟨by rw[g.o];rfl,N.o.kept⟩
  ·rw[ah f];have g:Hid (fH v p=2):=aa (by rw[C.o,if_pos f]);clear f;go_wp2;go_ret;exact⟨by rw[g.o];rfl,s.o.kept⟩
theorem Vk(v:Int)(p:Pk)(h:Hs)(w:abP)(ip:PkIn w w.heap.size p h)(ok:PkOk p):
  abR 106 #[.int .i64 v,pkV p h] w (.tuple #[.string ⟨(Yq v p).1.toArray⟩,.int .i64 (Yq v p).2]):=by
 have i:=aa ok;have k:=aa ((St.start w).push ip);have j:Hid (Yq v p=if fH v p=0 then(xV p.code p.props p.kind,0)else([],fH v p)):=aa rfl;clear ip ok;go_enter func106,ntmps106;go_wp2_with fail;refine Yg (nj v p h _ (k.o.into 0 rfl) i.o) λr f=>?_;have b:=aa (k.o.below f);clear f
 by_cases d:fH v p=0
 ·have g:Hid (Yq v p=(xV p.code p.props p.kind,0)):=aa (by rw[j.o,if_pos d]);rw[d];have m:=b.o.cell 0 rfl 0;rw[cI]at m;have n:=b.o.cell 0 rfl 21;rw[YB]at n;have o:=b.o.cell 0 rfl 24;rw[bR]at o;clear d;go_wp2_with fail;refine Yg (Vw p.code p.kind p.props _ rfl i.o.props h.props.a h.props.c _ (b.o.into 0 rfl).props i.o.len.2.2.2) λs f=>?_;have l:=aa (b.o.below f);clear f
  go_wp2;go_ret2;exact⟨by rw[g.o];rfl,l.o.kept⟩
 ·have q:(fH v p !=0)=true:=aA.2 d;have g:Hid (Yq v p=([],fH v p)):=aa (by rw[j.o,Fl d]);clear d;go_wp2;go_ret2;exact⟨by rw[g.o];rfl,b.o.kept⟩
structure RC (w:abP) (g gp:Nat) (k c:Int) (l:List Pr) (A:Option Addr) (n:Nat) (x:abP):Prop where
 kept:abQ w x
 res:Bk x g PkT (pkC pk0 hs0)
 pk:Bk x gp PkT (pkC (aP k 0 c l) {hs0 with props:=⟨A,n⟩})
 rd:Rd x x.heap.size 4 A l.length (prs l)
 cap:l.length<=n
 ne:g≠gp
 base:w.heap.size<=g/\w.heap.size<=gp
section
variable {w x y:abP} {g gp:Nat} {k c:Int} {l:List Pr} {A:Option Addr} {n:Nat}
theorem RC.below(h:RC w g gp k c l A n x)(hb:abQ x y):RC w g gp k c l A n y:=
 ⟨Yf h.kept hb,h.res.below hb h.res.lt,h.pk.below hb h.pk.lt,(h.rd.below hb).wider hb.size,h.cap,h.ne,h.base⟩
theorem RC.into(h:RC w g gp k c l A n x):PkIn x x.heap.size (aP k 0 c l) {hs0 with props:=⟨A,n⟩}:=qs h.rd h.cap k 0 c
theorem RC.none(h:RC w g gp k c l A n x):abQ w (dE x g pk0 hs0)/\Bk (dE x g pk0 hs0) g PkT (pkC pk0 hs0):=⟨YQ h.kept h.kept.size h.base.1 _ _,cO h.res _ _⟩
theorem RC.some(h:RC w g gp k c l A n x):abQ w (dE x g (aP k 0 c l) {hs0 with props:=⟨A,n⟩})/\Bk (dE x g (aP k 0 c l) {hs0 with props:=⟨A,n⟩}) g PkT (pkC (aP k 0 c l) {hs0 with props:=⟨A,n⟩})/\
  PkIn (dE x g (aP k 0 c l) {hs0 with props:=⟨A,n⟩}) (dE x g (aP k 0 c l) {hs0 with props:=⟨A,n⟩}).heap.size (aP k 0 c l) {hs0 with props:=⟨A,n⟩}:=
 ⟨YQ h.kept h.kept.size h.base.1 _ _,cO h.res _ _,qs ((h.rd.other h.res (dY _ _) (cJ _ _ _ _) (ac _)).wider (cJ _ _ _ _).size) h.cap k 0 c⟩
theorem RC.put(h:RC w g gp k 0 [] Option.none 0 x){A':Option Addr}{n':Nat}{l':List Pr}{c':Int}(hr:Rd x x.heap.size 4 A' l'.length (prs l'))(hn:l'.length<=n'):
  RC w g gp k c' l' A' n' ((x.setCell ⟨gp,21,.none⟩ (.int .i64 c')).setCell ⟨gp,24,.none⟩ (.slice A' l'.length n')):=by
 have a:=(YR x gp 21 (.int .i64 c')).trans (YR _ gp 24 (.slice A' l'.length n'));exact⟨dw h.kept a h.kept.size h.base.2,(h.res.other h.ne _).other h.ne _,vH h.pk,(hr.other h.pk (dY _ _) a (ac _)).wider a.size,hn,h.ne,h.base⟩
end
theorem Ao{s:abO}(hk:jR v k=0):
  ((if(fA v k s).2.2=0 then fH v (fN v k s)else(fA v k s).2.2)=0/\gX v k s=(fN v k s,0))\/((if(fA v k s).2.2=0 then fH v (fN v k s)else(fA v k s).2.2)≠0/\gX v k s=(pk0,(if(fA v k s).2.2=0 then fH v (fN v k s)else(fA v k s).2.2))):=by
 have c:gX v k s=if(fA v k s).2.2≠0 then(pk0,(fA v k s).2.2)else if fH v (fN v k s)≠0 then(pk0,fH v (fN v k s))else(fN v k s,0):=by
  unfold gX;rw[Fl (λx=>x hk)]
 rw[c];by_cases a:(fA v k s).2.2=0
 ·rw[if_pos a,Fl (λx=>x a)];by_cases b:fH v (fN v k s)=0
  ·rw[Fl (λx=>x b)];exact .inl ⟨b,rfl⟩
  ·rw[if_pos b];exact .inr ⟨b,rfl⟩
 ·rw[Fl a,if_pos a];exact .inr ⟨a,rfl⟩
theorem vG(v k:Int)(s:abO)(w:abP)(hs:s.size<=140737488351232):
  Calls prog 107 #[.int .i64 v,.int .i64 k,.string s] w (mu (gX v k s) w):=by
 have T:=aa hs;have N:=aa ((aq w.heap.size w).alloc (ac _) (.cells (pkC pk0 hs0) PkT));have M:=aa (Bk.fresh w PkT (pkC pk0 hs0));go_enter func107,ntmps107;go_wp2_with fail;refine Yg (nk v k _) λL a=>?_;have d:=aa (Yf N.o a);have p:=aa (M.o.below a M.o.lt);clear a
 by_cases t:jR v k=0;rotate_left
 ·have W:Hid (gX v k s=(pk0,jR v k)):=aa (by unfold gX;rw[if_pos t]);have V:(jR v k !=0)=true:=aA.2 t;have I:=aW p.o;generalize jR v k=E at*;clear t;go_wp2;refine abZ (aI rfl _ rfl (cO p.o pk0 hs0)) rfl ?_;exact YY W.o (YQ d.o d.o.size (ac _) _ _)
 have B:=aa (Ao (s:=s) t);rw[t];clear t;have X:Hid (RC w w.heap.size L.heap.size k 0 [] none 0 (L.alloc (.cells (pkC (aP k 0 0 []) hs0) PkT))):=aa
  ⟨d.o.alloc d.o.size _,p.o.alloc _,Bk.fresh _ _ _,Rd.nil _ _ _ _,ac _,by have:=p.o.lt;omega,ac _,d.o.size⟩
 go_wp2_with fail;rw[yP];refine Yg (pQ v k _) λw2 a=>?_;have j:=aa (X.o.below a);clear a
 cases F:fO v k
 focus
  have P:=Yv s;have b:fA v k s=(0,[],if s.size≠0 then 5 else 0):=by unfold fA;rw[Fl (by rw[F];decide)]
  have o:fN v k s=aP k 0 0 []:=by unfold fN;rw[b]
  by_cases y:s.size=0
  focus
   rw[au y]at P;have i:Hid ((fH v (aP k 0 0 [])=0/\gX v k s=(aP k 0 0 [],0))\/(fH v (aP k 0 0 [])≠0/\gX v k s=(pk0,fH v (aP k 0 0 [])))):=aa (by simpa [b,o,y]using B.o);have K:=cf j.o.pk;clear F y b o;go_wp2_with fail;refine Yg (nj v (aP k 0 0 []) _ _ j.o.into (iw (by simp) (by simp))) λQ a=>?_;have f:=aa (j.o.below a);clear a K
   have O:=i;generalize fH v (aP k 0 0 [])=E2 at*
  rotate_left
  ·rw[ah y]at P;have g:Hid (gX v k s=(pk0,5)):=aa (by simpa [b,o,y]using B.o);have I:=aW j.o.res;clear F y b o;go_wp2;refine abZ (aI rfl _ rfl j.o.none.2) rfl ?_;exact YY g.o j.o.none.1
 rotate_left
 focus
  have b:fA v k s=iO k s:=by unfold fA;rw[if_pos F]
  have o:fN v k s=aP k 0 (iO k s).1 (iO k s).2.1:=by unfold fN;rw[b]
  have q:=mA (v:=v) (k:=k) T.o;rw[b]at q;have z:Hid (PkOk (aP k 0 (iO k s).1 (iO k s).2.1)):=aa (iw q.1 (by have:=q.2;omega));have C:=B.o;rw[o,b]at C;have i:=aa C;clear F b o q C;go_wp2_with fail;refine(AQ k s _ T.o).mono ?_;rintro e Q ⟨A,n,rfl,m,H,a⟩;have D:=aa (j.o.below a);generalize iO k s=R at*;obtain⟨c,l,x⟩:=R;simp only at m H i z⊢;have r:=aa (D.o.put (c':=c) H m);have f1:Q.cell? ⟨L.heap.size,21,none⟩=some (.int .i64 0):=D.o.pk.cell 21;have Y:Q.cell? ⟨L.heap.size,24,none⟩=some (.slice none 0 0):=D.o.pk.cell 24;have Z:=D.o.pk.free 21;have g2:=D.o.pk.free 24;have S:=z;clear m H a;by_cases u:x=0
  focus
   subst u;have U:Hid ((fH v (aP k 0 c l)=0/\gX v k s=(aP k 0 c l,0))\/(fH v (aP k 0 c l)≠0/\gX v k s=(pk0,fH v (aP k 0 c l)))):=aa (by have:=i.o;rwa[if_pos rfl]at this);have K:=cf r.o.pk;go_wp2_with fail;refine Yg (nj v (aP k 0 c l) _ _ r.o.into S.o) λw4 a=>?_;have f:=aa (r.o.below a);clear a K f1 Y Z g2
   have O:=U;clear i;generalize fH v (aP k 0 c l)=E2 at*
  rotate_left
  ·have V:(x==0)=false:=ar.2 u;have e1:(x !=0)=true:=aA.2 u;have g:Hid (gX v k s=(pk0,x)):=aa (by
    have:=i.o;rw[Fl u]at this;rcases this with ⟨h,_⟩ | ⟨_,h⟩
    ·exact absurd h u
    ·exact h)
   have I:=aW r.o.res;clear u i;go_wp2;refine abZ (aI rfl _ rfl r.o.none.2) rfl ?_;exact YY g.o r.o.none.1
 rotate_left
 all_goals
  have K:=cf f.o.pk;have I:=aW f.o.res;rcases O.o with ⟨J,G⟩ | ⟨J,G⟩
  ·subst J;have g:=aa G;clear G
   go_wp2;refine abZ (aI rfl _ rfl f.o.some.2.1) rfl ?_;exact fo g.o f.o.some.2.2 f.o.some.1
  ·have V:(E2 !=0)=true:=aA.2 J;have g:=aa G;clear G J
   go_wp2;refine abZ (aI rfl _ rfl f.o.none.2) rfl ?_;exact YY g.o f.o.none.1
abbrev DfT:TypeId:=104
abbrev WrT:TypeId:=88
abbrev ChT:TypeId:=84
def dfC(v:Int)(p:Pk)(h:Hs):Array Value:=#[.int .i64 v]++pkC p h
def dfV(v:Int)(p:Pk)(h:Hs):Value:=.agg (dfC v p h)
def Gq(v:Array (Nat×Value)):Sem Value:=Instr.build DfT v
def Gm(v:Value):Sem Value:=Instr.box DfT v
theorem xT(v:Array (Nat×Value)):Instr.build DfT v=Gq v:=rfl
theorem xR(v:Value):Instr.box DfT v=Gm v:=rfl
theorem un(v:Int)(p:Pk)(h:Hs)(w:abP):(Gq #[(0,.int .i64 v),(1,pkV p h)]).run prog w= .ok (dfV v p h) w:=by kernel_rfl
theorem ul(v:Int)(p:Pk)(h:Hs)(w:abP):(Gm (dfV v p h)).run prog w= .ok (.pointer (some ⟨w.heap.size,0,none⟩)) (w.alloc (.cells (dfC v p h) DfT)):=rfl
theorem VI(hb:Bk w g DfT (dfC v p h)):w.cell? ⟨g,0,none⟩=some (.int .i64 v):=by
 rw[hb.cell];unfold dfC;rw[Array.getElem?_append_left (by simp)];rfl
theorem Vh(hb:Bk w g DfT (dfC v p h)):(kZ (.pointer (some ⟨g,1,none⟩))).run prog w= .ok (pkV p h) w:=by
 unfold kZ;have a:w.rangeAt g 1 (pkC p h).toList:=λj u b=>by
  rw[hb.cell];unfold dfC;rw[Array.getElem?_append_right (by simp)]
  simpa using b
 exact run_loadAt_mid w g 1 PkT (pkC p h).toList _ a underlying30 rfl (by rw[fT,bo];exact tk)
attribute [local go_sem ↓] xT xR
attribute [local go_sem] un ul
theorem Rd.otherF{B:Nat}{l:List Fi}{k:Hs}(h:Rd w B 5 A l.length (fis l))(hbk:Bk w g PkT (pkC p k))(hm:w.grownBy w' (some g))(hB:B<=w.heap.size):Rd w' B 5 A l.length (fis l):=by
 refine h.grown hm hB ?_;rintro b o rfl m rfl;cases l with
 | nil=>exact m rfl
 | cons f l=>
   obtain⟨n,r,e,-,a,c,d,j,-⟩:=h.atF (i:=0) (by simp);simp only[aX,Addr.mk.injEq]at e;obtain⟨rfl,rfl,-⟩:=e;rw[hbk.cell]at a c d j;simp only[jU,jV,List.getElem_cons_zero]at a c d j;have q:o<25:=by
    rcases fj o 25 with h| h
    ·exact h
    ·rw[Array.getElem?_eq_none (by rw[bo];exact h)]at a;cases a
   rcases o with _| _| _| _| _| _| _| _| _| _| _| _| _| _| _| _| _| _| _| _| _| _| _| _| _| o
   all_goals first| (simp[pkC]at a;done) | (simp[pkC]at c;done) | (simp[pkC]at d;done) | (simp[pkC]at j;done) | omega
def ja(w:abP)(p:Pk)(h:Hs):Prop:=p.codes=[]\/∀b o,h.codes.a=some ⟨b,o,none⟩->w.heap.size<=b
theorem ja.mono(hf:ja x p h)(hx:w.heap.size<=x.heap.size):ja w p h:=hf.imp id λg b o e=>aC hx (g b o e)
theorem PkIn.put{y:abP}{p0:Pk}{h0:Hs}(hi:PkIn x x.heap.size p h)(hbk:Bk x g PkT (pkC p0 h0))(hm:x.grownBy y (some g))(hf:ja w p h)(hg:g<w.heap.size):PkIn y y.heap.size p h:=by
 refine⟨(hi.wp.other hbk (dY _ _) hm (ac _)).wider hm.size,?_,(hi.filters.otherF hbk hm (ac _)).wider hm.size,(hi.props.other hbk (dY _ _) hm (ac _)).wider hm.size,hi.caps⟩;refine(hi.codes.grown hm (ac _) ?_).wider hm.size;intro b o e a;rcases hf with h| h
 ·rw[h]at a;exact absurd rfl a
 ·have:=h b o e;omega
def lQ(r:Pk×Int)(w:abP)(e:Ending)(w':abP):Prop:=∃h,e= .returned (.tuple #[pkV r.1 h,.int .i64 r.2])/\PkIn w' w'.heap.size r.1 h/\abQ w w'/\ja w r.1 h
theorem mu.plain{r:Pk×Int}{e:Ending}(x:mu r w e w')(hc:r.1.codes=[]):lQ r w e w':=by
 obtain⟨h,b,c,a⟩:=x;exact⟨h,b,c,a,.inl hc⟩
theorem qT.plain{r:Pk×Int}{e:Ending}(x:qT r w e w'):lQ r w e w':=by
 obtain⟨h,b,d,a,c⟩:=x;exact⟨h,b,d,a,.inr c⟩
theorem xy(v k:Int)(s:abO):(iB v k s).1.codes=[]:=by
 rcases oe (v:=v) (k:=k) (s:=s)with ⟨-,b⟩ | ⟨-,-,-,-,a,c⟩
 ·rw[b];rfl
 ·rw[c];rcases Dk a with h| h
  ·rw[(su a h).same];unfold kS;split<;>rfl
  ·rw[(Az a h).same];rfl
theorem wJ(v f:Int)(s:abO):(km v f s).1.codes=[]:=by
 unfold km
 repeat' split
 all_goals rfl
theorem xJ(v k:Int)(s:abO):(iW v k s).1.codes=[]:=by
 unfold iW
 repeat' split
 all_goals rfl
theorem xw(v k:Int)(s:abO):(gX v k s).1.codes=[]:=by
 unfold gX
 repeat' split
 all_goals rfl
def FC(f:FuncId):Value:=.func (.func f) #[] #[]
def wrV(v:Int)(x:Hdr)(s:abO):Value:=.agg #[.int .i64 v,.int .i64 x.k,.int .i64 x.f,.int .i64 x.n,.string s]
theorem UV(v:Int)(p:Pk)(h:Hs)(w:abP)(ip:PkIn w w.heap.size p h)(ok:PkOk p):
  abR 64 #[dfV v p h] w (.tuple #[.string (Dm v p).1,.int .i64 (Dm v p).2]):=by
 have f:=aa (Bk.fresh w DfT (dfC v p h));have a:=(aq w.heap.size w).alloc (ac _) (.cells (dfC v p h) DfT);have b:=aa a;have d:=aa (ip.next a);have g:=aa ok;have j:=VI f.o;have k:=Vh f.o;clear ip ok a;go_enter func64,ntmps64;go_wp2_with fail;refine Yg (aap v p h _ d.o g.o) λl i=>?_;have c:=aa (Yf b.o i);clear i j k;go_wp2;go_ret2;exact⟨rfl,c.o⟩
theorem UT(v:Int)(p:Pk)(h:Hs)(w:abP)(ip:PkIn w w.heap.size p h)(ok:PkOk p):
  abR 72 #[dfV v p h] w (.tuple #[.string (Gf v p).1,.int .i64 (Gf v p).2]):=by
 have f:=aa (Bk.fresh w DfT (dfC v p h));have a:=(aq w.heap.size w).alloc (ac _) (.cells (dfC v p h) DfT);have b:=aa a;have d:=aa (ip.next a);have g:=aa ok;have j:=VI f.o;have k:=Vh f.o;clear ip ok a;go_enter func72,ntmps72;go_wp2_with fail;refine Yg (Va v p h _ d.o g.o) λl i=>?_;have c:=aa (Yf b.o i);clear i j k;go_wp2;go_ret2;exact⟨rfl,c.o⟩
theorem VA(v:Int)(p:Pk)(h:Hs)(w:abP)(ip:PkIn w w.heap.size p h)(ok:PkOk p):
  abR 66 #[dfV v p h] w (.tuple #[.string ⟨(Ga v p).1.toArray⟩,.int .i64 (Ga v p).2]):=by
 have f:=aa (Bk.fresh w DfT (dfC v p h));have a:=(aq w.heap.size w).alloc (ac _) (.cells (dfC v p h) DfT);have b:=aa a;have d:=aa (ip.next a);have g:=aa ok;have j:=VI f.o;have k:=Vh f.o;clear ip ok a;go_enter func66,ntmps66;go_wp2_with fail;refine Yg (Vn v p h _ d.o g.o) λl i=>?_;have c:=aa (Yf b.o i);clear i j k;go_wp2;go_ret2;exact⟨rfl,c.o⟩
theorem UK(v:Int)(p:Pk)(h:Hs)(w:abP)(ip:PkIn w w.heap.size p h)(ok:PkOk p)(hz:(sbS v p).length<=140737488351232):
  abR 68 #[dfV v p h] w (.tuple #[.string (sbB v p).1,.int .i64 (sbB v p).2]):=by
 have f:=aa (Bk.fresh w DfT (dfC v p h));have a:=(aq w.heap.size w).alloc (ac _) (.cells (dfC v p h) DfT);have b:=aa a;have d:=aa (ip.next a);have g:=aa ok;have j:=VI f.o;have k:=Vh f.o;clear ip ok a;go_enter func68,ntmps68;go_wp2_with fail;refine Yg (Vp v p h _ d.o g.o hz) λl i=>?_;have c:=aa (Yf b.o i);clear i j k;go_wp2;go_ret2;exact⟨rfl,c.o⟩
theorem UU(v:Int)(p:Pk)(h:Hs)(w:abP)(ip:PkIn w w.heap.size p h)(ok:PkOk p):
  abR 70 #[dfV v p h] w (.tuple #[.string ⟨(Yq v p).1.toArray⟩,.int .i64 (Yq v p).2]):=by
 have f:=aa (Bk.fresh w DfT (dfC v p h));have a:=(aq w.heap.size w).alloc (ac _) (.cells (dfC v p h) DfT);have b:=aa a;have d:=aa (ip.next a);have g:=aa ok;have j:=VI f.o;have k:=Vh f.o;clear ip ok a;go_enter func70,ntmps70;go_wp2_with fail;refine Yg (Vk v p h _ d.o g.o) λl i=>?_;have c:=aa (Yf b.o i);clear i j k;go_wp2;go_ret2;exact⟨rfl,c.o⟩
theorem rb(v:Int)(x:Hdr)(s:abO)(w:abP)(hs:s.size<=1000000000000):
  Calls prog 65 #[wrV v x s] w (lQ (iB v x.k s) w):=by
 have B:=aa hs;have i:=aa (((aq w.heap.size w).alloc (ac _) (.cells #[.int .i64 v,.int .i64 x.k,.int .i64 x.f,.int .i64 x.n,.string s] WrT)).alloc (by simp) (.cells (pkC pk0 hs0) PkT));have a:=aa ((Bk.fresh w WrT #[.int .i64 v,.int .i64 x.k,.int .i64 x.f,.int .i64 x.n,.string s]).alloc (.cells (pkC pk0 hs0) PkT));have m:=aa (Bk.fresh (w.alloc (.cells #[.int .i64 v,.int .i64 x.k,.int .i64 x.f,.int .i64 x.n,.string s] WrT)) PkT (pkC pk0 hs0));have o:=a.o.cell 0;have p:=a.o.cell 1;have q:=a.o.cell 2;have r:=a.o.cell 4
 simp only[ay,aE,aB]at o p q r;clear hs;unfold wrV;go_enter func65,ntmps65;go_wp2_with fail;refine(vI v x.k s _ (by have:=B.o;omega)).mono ?_;rintro e D t;obtain⟨c,rfl,z,h,y⟩:=t.plain (xy _ _ _);have j:=aa y;have d:=aa (Yf i.o h);have l:=aa z;have b:=aa (m.o.below h m.o.lt);clear o p q r;have g:(w.alloc (.cells #[.int .i64 v,.int .i64 x.k,.int .i64 x.f,.int .i64 x.n,.string s] WrT)).heap.size=w.heap.size+1:=by simp
 rw[g]at b;clear g;have C:=aW b.o (iB v x.k s).1 c;have A:Hid (w.heap.size<=w.heap.size+1):=aa (by omega);clear z h y t;generalize iB v x.k s=R at*;go_wp2;refine abZ (aI rfl _ rfl (cO b.o R.1 c)) rfl ?_;have u:=YQ d.o d.o.size A.o R.1 c;exact⟨c,rfl,l.o.put b.o (cJ _ _ _ _) j.o (by simp),u,j.o.mono (by simp;omega)⟩
theorem qY(v:Int)(x:Hdr)(s:abO)(w:abP)(hs:s.size<=1000000000000):
  Calls prog 73 #[wrV v x s] w (lQ (km v x.f s) w):=by
 have B:=aa hs;have i:=aa (((aq w.heap.size w).alloc (ac _) (.cells #[.int .i64 v,.int .i64 x.k,.int .i64 x.f,.int .i64 x.n,.string s] WrT)).alloc (by simp) (.cells (pkC pk0 hs0) PkT));have a:=aa ((Bk.fresh w WrT #[.int .i64 v,.int .i64 x.k,.int .i64 x.f,.int .i64 x.n,.string s]).alloc (.cells (pkC pk0 hs0) PkT));have m:=aa (Bk.fresh (w.alloc (.cells #[.int .i64 v,.int .i64 x.k,.int .i64 x.f,.int .i64 x.n,.string s] WrT)) PkT (pkC pk0 hs0));have o:=a.o.cell 0;have p:=a.o.cell 1;have q:=a.o.cell 2;have r:=a.o.cell 4
 simp only[ay,aE,aB]at o p q r;clear hs;unfold wrV;go_enter func73,ntmps73;go_wp2_with fail;refine(uO v x.f s _ (by have:=B.o;omega)).mono ?_;rintro e D t;obtain⟨c,rfl,z,h,y⟩:=t.plain (wJ _ _ _);have j:=aa y;have d:=aa (Yf i.o h);have l:=aa z;have b:=aa (m.o.below h m.o.lt);clear o p q r;have g:(w.alloc (.cells #[.int .i64 v,.int .i64 x.k,.int .i64 x.f,.int .i64 x.n,.string s] WrT)).heap.size=w.heap.size+1:=by simp
 rw[g]at b;clear g;have C:=aW b.o (km v x.f s).1 c;have A:Hid (w.heap.size<=w.heap.size+1):=aa (by omega);clear z h y t;generalize km v x.f s=R at*;go_wp2;refine abZ (aI rfl _ rfl (cO b.o R.1 c)) rfl ?_;have u:=YQ d.o d.o.size A.o R.1 c;exact⟨c,rfl,l.o.put b.o (cJ _ _ _ _) j.o (by simp),u,j.o.mono (by simp;omega)⟩
theorem yV(v:Int)(x:Hdr)(s:abO)(w:abP)(hs:s.size<=1000000000000):
  Calls prog 67 #[wrV v x s] w (lQ (iW v x.k s) w):=by
 have B:=aa hs;have i:=aa (((aq w.heap.size w).alloc (ac _) (.cells #[.int .i64 v,.int .i64 x.k,.int .i64 x.f,.int .i64 x.n,.string s] WrT)).alloc (by simp) (.cells (pkC pk0 hs0) PkT));have a:=aa ((Bk.fresh w WrT #[.int .i64 v,.int .i64 x.k,.int .i64 x.f,.int .i64 x.n,.string s]).alloc (.cells (pkC pk0 hs0) PkT));have m:=aa (Bk.fresh (w.alloc (.cells #[.int .i64 v,.int .i64 x.k,.int .i64 x.f,.int .i64 x.n,.string s] WrT)) PkT (pkC pk0 hs0));have o:=a.o.cell 0;have p:=a.o.cell 1;have q:=a.o.cell 2;have r:=a.o.cell 4
 simp only[ay,aE,aB]at o p q r;clear hs;unfold wrV;go_enter func67,ntmps67;go_wp2_with fail;refine(vR v x.k s _ (by have:=B.o;omega)).mono ?_;rintro e D t;obtain⟨c,rfl,z,h,y⟩:=t.plain (xJ _ _ _);have j:=aa y;have d:=aa (Yf i.o h);have l:=aa z;have b:=aa (m.o.below h m.o.lt);clear o p q r;have g:(w.alloc (.cells #[.int .i64 v,.int .i64 x.k,.int .i64 x.f,.int .i64 x.n,.string s] WrT)).heap.size=w.heap.size+1:=by simp
 rw[g]at b;clear g;have C:=aW b.o (iW v x.k s).1 c;have A:Hid (w.heap.size<=w.heap.size+1):=aa (by omega);clear z h y t;generalize iW v x.k s=R at*;go_wp2;refine abZ (aI rfl _ rfl (cO b.o R.1 c)) rfl ?_;have u:=YQ d.o d.o.size A.o R.1 c;exact⟨c,rfl,l.o.put b.o (cJ _ _ _ _) j.o (by simp),u,j.o.mono (by simp;omega)⟩
theorem oX(v:Int)(x:Hdr)(s:abO)(w:abP)(hs:s.size<=1000000000000):
  Calls prog 69 #[wrV v x s] w (lQ (sbR v x.k s) w):=by
 have B:=aa hs;have i:=aa (((aq w.heap.size w).alloc (ac _) (.cells #[.int .i64 v,.int .i64 x.k,.int .i64 x.f,.int .i64 x.n,.string s] WrT)).alloc (by simp) (.cells (pkC pk0 hs0) PkT));have a:=aa ((Bk.fresh w WrT #[.int .i64 v,.int .i64 x.k,.int .i64 x.f,.int .i64 x.n,.string s]).alloc (.cells (pkC pk0 hs0) PkT));have m:=aa (Bk.fresh (w.alloc (.cells #[.int .i64 v,.int .i64 x.k,.int .i64 x.f,.int .i64 x.n,.string s] WrT)) PkT (pkC pk0 hs0));have o:=a.o.cell 0;have p:=a.o.cell 1;have q:=a.o.cell 2;have r:=a.o.cell 4
 simp only[ay,aE,aB]at o p q r;clear hs;unfold wrV;go_enter func69,ntmps69;go_wp2_with fail;refine(ud v x.k s _ B.o).mono ?_;rintro e D t;obtain⟨c,rfl,z,h,y⟩:=t.plain;have j:=aa y;have d:=aa (Yf i.o h);have l:=aa z;have b:=aa (m.o.below h m.o.lt);clear o p q r;have g:(w.alloc (.cells #[.int .i64 v,.int .i64 x.k,.int .i64 x.f,.int .i64 x.n,.string s] WrT)).heap.size=w.heap.size+1:=by simp
 rw[g]at b;clear g;have C:=aW b.o (sbR v x.k s).1 c;have A:Hid (w.heap.size<=w.heap.size+1):=aa (by omega);clear z h y t;generalize sbR v x.k s=R at*;go_wp2;refine abZ (aI rfl _ rfl (cO b.o R.1 c)) rfl ?_;have u:=YQ d.o d.o.size A.o R.1 c;exact⟨c,rfl,l.o.put b.o (cJ _ _ _ _) j.o (by simp),u,j.o.mono (by simp;omega)⟩
theorem qZ(v:Int)(x:Hdr)(s:abO)(w:abP)(hs:s.size<=1000000000000):
  Calls prog 71 #[wrV v x s] w (lQ (gX v x.k s) w):=by
 have B:=aa hs;have i:=aa (((aq w.heap.size w).alloc (ac _) (.cells #[.int .i64 v,.int .i64 x.k,.int .i64 x.f,.int .i64 x.n,.string s] WrT)).alloc (by simp) (.cells (pkC pk0 hs0) PkT));have a:=aa ((Bk.fresh w WrT #[.int .i64 v,.int .i64 x.k,.int .i64 x.f,.int .i64 x.n,.string s]).alloc (.cells (pkC pk0 hs0) PkT));have m:=aa (Bk.fresh (w.alloc (.cells #[.int .i64 v,.int .i64 x.k,.int .i64 x.f,.int .i64 x.n,.string s] WrT)) PkT (pkC pk0 hs0));have o:=a.o.cell 0;have p:=a.o.cell 1;have q:=a.o.cell 2;have r:=a.o.cell 4
 simp only[ay,aE,aB]at o p q r;clear hs;unfold wrV;go_enter func71,ntmps71;go_wp2_with fail;refine(vG v x.k s _ (by have:=B.o;omega)).mono ?_;rintro e D t;obtain⟨c,rfl,z,h,y⟩:=t.plain (xw _ _ _);have j:=aa y;have d:=aa (Yf i.o h);have l:=aa z;have b:=aa (m.o.below h m.o.lt);clear o p q r;have g:(w.alloc (.cells #[.int .i64 v,.int .i64 x.k,.int .i64 x.f,.int .i64 x.n,.string s] WrT)).heap.size=w.heap.size+1:=by simp
 rw[g]at b;clear g;have C:=aW b.o (gX v x.k s).1 c;have A:Hid (w.heap.size<=w.heap.size+1):=aa (by omega);clear z h y t;generalize gX v x.k s=R at*;go_wp2;refine abZ (aI rfl _ rfl (cO b.o R.1 c)) rfl ?_;have u:=YQ d.o d.o.size A.o R.1 c;exact⟨c,rfl,l.o.put b.o (cJ _ _ _ _) j.o (by simp),u,j.o.mono (by simp;omega)⟩
end
