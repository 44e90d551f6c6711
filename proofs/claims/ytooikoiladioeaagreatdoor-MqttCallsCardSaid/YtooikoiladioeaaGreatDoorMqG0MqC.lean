/- Parts: MqC, MqD, MqE, MqF, OpenK, MqH, PkR, MqJ. -/
import Derived.Test.YtooikoiladioeaaGreatDoorMqG0HdC
set_option maxRecDepth 10000
set_option maxHeartbeats 8000000
namespace Go.Proofs.YtooikoiladioeaaGreatDoor
open Go.RowKit Go.Proofs.Tryz
section
def wF(k:Int):FuncId:=if k<=2 then 52 else if k=3 then 60 else if k<=7 then 54 else if k<=11 then 56 else 58
def rF(k:Int):FuncId:=if k<=2 then 53 else if k=3 then 61 else if k<=7 then 55 else if k<=11 then 57 else 59
def ns:List (Int×Value):=[(1,.agg #[.func (.func 52) #[] #[],.func (.func 53) #[] #[]]),(2,.agg #[.func (.func 52) #[] #[],.func (.func 53) #[] #[]]),(3,.agg #[.func (.func 60) #[] #[],.func (.func 61) #[] #[]]),(4,.agg #[.func (.func 54) #[] #[],.func (.func 55) #[] #[]]),(5,.agg #[.func (.func 54) #[] #[],.func (.func 55) #[] #[]]),(6,.agg #[.func (.func 54) #[] #[],.func (.func 55) #[] #[]]),(7,.agg #[.func (.func 54) #[] #[],.func (.func 55) #[] #[]]),(8,.agg #[.func (.func 56) #[] #[],.func (.func 57) #[] #[]]),(9,.agg #[.func (.func 56) #[] #[],.func (.func 57) #[] #[]]),(10,.agg #[.func (.func 56) #[] #[],.func (.func 57) #[] #[]]),(11,.agg #[.func (.func 56) #[] #[],.func (.func 57) #[] #[]]),(12,.agg #[.func (.func 58) #[] #[],.func (.func 59) #[] #[]]),(13,.agg #[.func (.func 58) #[] #[],.func (.func 59) #[] #[]]),(14,.agg #[.func (.func 58) #[] #[],.func (.func 59) #[] #[]]),(15,.agg #[.func (.func 58) #[] #[],.func (.func 59) #[] #[]])]
def Dr(k:Int):Bool:=decide (1<=k/\k<=15)
theorem EI{k:Int}(h:1<=k/\k<=15):k=1\/k=2\/k=3\/k=4\/k=5\/k=6\/k=7\/k=8\/k=9\/k=10\/k=11\/k=12\/k=13\/k=14\/k=15:=by omega
theorem Et(k:Int):∃a b,(ia ns k).getD (.agg #[.nilFunc,.nilFunc])= .agg #[a,b]/\(ia ns k).isSome=Dr k/\(Dr k=true->a=FC (wF k)/\b=FC (rF k))/\a.oneCell'=true/\b.oneCell'=true:=by
 by_cases h:1<=k/\k<=15
 ·have c:Dr k=true:=au h;rcases EI h with rfl| rfl| rfl| rfl| rfl| rfl| rfl| rfl| rfl| rfl| rfl| rfl| rfl| rfl| rfl
  all_goals exact⟨_,_,rfl,c.symm▸rfl,fun _=>⟨rfl,rfl⟩,rfl,rfl⟩
 ·have c:Dr k=false:=ah h;have g:ia ns k=none:=by
   unfold ia;rw[List.find?_eq_none.2]
   ·rfl
   ·intro q d;simp only[ns,ie,List.not_mem_nil,or_false]at d;intro e;have f:=eq_of_beq e;rcases d with rfl| rfl| rfl| rfl| rfl| rfl| rfl| rfl| rfl| rfl| rfl| rfl| rfl| rfl| rfl
    all_goals (simp only at f;omega)
  rw[g];exact⟨_,_,rfl,c.symm▸rfl,fun x=>by(rw[c]at x;cases x),rfl,rfl⟩
theorem VH{k:Int}(args:Array Value)(w:World):(callFunc (wF k) args).run prog w= .ok (.enter (wF k) args) w:=by
 unfold wF
 repeat' split
 ·exact dv func52 (by kernel_rfl) rfl args w
 ·exact dv func60 (by kernel_rfl) rfl args w
 ·exact dv func54 (by kernel_rfl) rfl args w
 ·exact dv func56 (by kernel_rfl) rfl args w
 ·exact dv func58 (by kernel_rfl) rfl args w
theorem CW{k:Int}(args:Array Value)(w:World):(callFunc (rF k) args).run prog w= .ok (.enter (rF k) args) w:=by
 unfold rF
 repeat' split
 ·exact dv func53 (by kernel_rfl) rfl args w
 ·exact dv func61 (by kernel_rfl) rfl args w
 ·exact dv func55 (by kernel_rfl) rfl args w
 ·exact dv func57 (by kernel_rfl) rfl args w
 ·exact dv func59 (by kernel_rfl) rfl args w
def DL(a v:Value):Sem Unit:=Instr.storeAt ChT a v
theorem xQ(a v:Value):Instr.storeAt ChT a v=DL a v:=rfl
theorem EA:(prog.info? ChT).map (·.size)=some 2:=by kernel_rfl
theorem Bj{w:World}{g:Nat}{x y:Value}(hb:Bk w g ChT #[x,y]){a b:Value}(ha:a.oneCell'=true)(hb':b.oneCell'=true):(DL (.pointer (some ⟨g,0,none⟩)) (.agg #[a,b])).run prog w= .ok () (w.setCells g 0 [a,b]):=by
 unfold DL;refine run_storeAt_mid w g 0 ChT #[a,b] ?_ EA (by simp[ha,hb']);intro j c;rw[bV,hb.cell,hb.free];refine⟨?_,rfl⟩;rw[eL (show j< #[x,y].size from c)];rfl
theorem j7(w:World){n:Nat}(hn:w.heap.size=n)(x y:Value){a b:Value}(ha:a.oneCell'=true)(hb:b.oneCell'=true):(DL (.pointer (some ⟨n,0,none⟩)) (.agg #[a,b])).run prog (w.alloc (.cells #[x,y] ChT))= .ok () (w.alloc (.cells #[a,b] ChT)):=by
 subst hn;rw[Bj (Bk.fresh w ChT #[x,y]) ha hb,io];rfl
attribute [local go_sem ↓] xQ
structure ChK (W:World) (g:Nat):Prop where
 b0:Bk W (g+0) ChT #[.func (.func 52) #[] #[],.func (.func 53) #[] #[]]
 b1:Bk W (g+1) ChT #[.func (.func 54) #[] #[],.func (.func 55) #[] #[]]
 b2:Bk W (g+2) ChT #[.func (.func 56) #[] #[],.func (.func 57) #[] #[]]
 b3:Bk W (g+3) ChT #[.func (.func 58) #[] #[],.func (.func 59) #[] #[]]
theorem ChK.next{W w1:World}{g:Nat}(h:ChK W g)(hg:W.grownBy w1 (some (g+4))):ChK w1 g:=
 ⟨h.b0.mods (S:=fun z=>z=g+4) (Mods.of_grown hg rfl) (by omega),h.b1.mods (S:=fun z=>z=g+4) (Mods.of_grown hg rfl) (by omega),h.b2.mods (S:=fun z=>z=g+4) (Mods.of_grown hg rfl) (by omega),h.b3.mods (S:=fun z=>z=g+4) (Mods.of_grown hg rfl) (by omega)⟩
theorem ChK.cells{W:World}{g:Nat}(h:ChK W g):W.cell? ⟨g,0,none⟩=some (.func (.func 52) #[] #[])/\W.cell? ⟨g,1,none⟩=some (.func (.func 53) #[] #[])/\W.cell? ⟨g+1,0,none⟩=some (.func (.func 54) #[] #[])/\W.cell? ⟨g+1,1,none⟩=some (.func (.func 55) #[] #[])/\W.cell? ⟨g+2,0,none⟩=some (.func (.func 56) #[] #[])/\W.cell? ⟨g+2,1,none⟩=some (.func (.func 57) #[] #[])/\W.cell? ⟨g+3,0,none⟩=some (.func (.func 58) #[] #[])/\W.cell? ⟨g+3,1,none⟩=some (.func (.func 59) #[] #[]):=
 ⟨h.b0.cell 0,h.b0.cell 1,h.b1.cell 0,h.b1.cell 1,h.b2.cell 0,h.b2.cell 1,h.b3.cell 0,h.b3.cell 1⟩
theorem tC(w:World):Calls prog 30 #[] w fun e w'=>∃r,e= .returned (.map (some r))/\fQ .i64 w' r ns/\Below w.heap.size w w':=by
 have C:=@run_makeMap prog;obtain⟨d,f⟩:∃d,((((w.alloc (.cells #[.func (.func 52) #[] #[],.func (.func 53) #[] #[]] ChT)).alloc (.cells #[.func (.func 54) #[] #[],.func (.func 55) #[] #[]] ChT)).alloc (.cells #[.func (.func 56) #[] #[],.func (.func 57) #[] #[]] ChT)).alloc (.cells #[.func (.func 58) #[] #[],.func (.func 59) #[] #[]] ChT))=d:=⟨_,rfl⟩;have j:d.heap.size=w.heap.size+4:=by rw[<-f];simp
 have g:Hid (Below w.heap.size w (d.alloc (.map #[] 0))):=aa (by
  rw[<-f];exact(((((aq w.heap.size w).alloc (ac _) _).alloc (by simp) _).alloc (by simp;omega) _).alloc (by simp;omega) _).alloc (by simp;omega) _)
 have h:Hid (fQ .i64 (d.alloc (.map #[] 0)) (w.heap.size+4) []):=aa (by rw[<-j];exact fQ.made d .i64);have c:Hid (ChK (d.alloc (.map #[] 0)) w.heap.size):=aa (by
  rw[<-f];have z:(w.alloc (.cells #[.func (.func 52) #[] #[],.func (.func 53) #[] #[]] ChT)).heap.size=w.heap.size+1:=by simp
  have A:((w.alloc (.cells #[.func (.func 52) #[] #[],.func (.func 53) #[] #[]] ChT)).alloc (.cells #[.func (.func 54) #[] #[],.func (.func 55) #[] #[]] ChT)).heap.size=w.heap.size+2:=by simp
  have B:(((w.alloc (.cells #[.func (.func 52) #[] #[],.func (.func 53) #[] #[]] ChT)).alloc (.cells #[.func (.func 54) #[] #[],.func (.func 55) #[] #[]] ChT)).alloc (.cells #[.func (.func 56) #[] #[],.func (.func 57) #[] #[]] ChT)).heap.size=w.heap.size+3:=by simp
  refine⟨((((Bk.fresh w ChT _).alloc _).alloc _).alloc _).alloc _,?_,?_,?_⟩
  ·rw[<-z];exact(((Bk.fresh _ ChT _).alloc _).alloc _).alloc _
  ·rw[<-A];exact((Bk.fresh _ ChT _).alloc _).alloc _
  ·rw[<-B];exact(Bk.fresh _ ChT _).alloc _)
 obtain⟨l,m,o,p,q,s,t,u⟩:=c.o.cells;rw[<-f]at l m o p q s t u g h c;clear f j;clear d;have D:=j7 w (n:=w.heap.size) (by simp) .nilFunc .nilFunc (a:=.func (.func 52) #[] #[]) (b:=.func (.func 53) #[] #[]) rfl rfl;have E:=j7 (w.alloc (.cells #[.func (.func 52) #[] #[],.func (.func 53) #[] #[]] ChT)) (n:=w.heap.size+1) (by simp) .nilFunc .nilFunc (a:=.func (.func 54) #[] #[]) (b:=.func (.func 55) #[] #[]) rfl rfl;have F:=j7 ((w.alloc (.cells #[.func (.func 52) #[] #[],.func (.func 53) #[] #[]] ChT)).alloc (.cells #[.func (.func 54) #[] #[],.func (.func 55) #[] #[]] ChT)) (n:=w.heap.size+2) (by simp) .nilFunc .nilFunc (a:=.func (.func 56) #[] #[]) (b:=.func (.func 57) #[] #[]) rfl rfl;have G:=j7 (((w.alloc (.cells #[.func (.func 52) #[] #[],.func (.func 53) #[] #[]] ChT)).alloc (.cells #[.func (.func 54) #[] #[],.func (.func 55) #[] #[]] ChT)).alloc (.cells #[.func (.func 56) #[] #[],.func (.func 57) #[] #[]] ChT)) (n:=w.heap.size+3) (by simp) .nilFunc .nilFunc (a:=.func (.func 58) #[] #[]) (b:=.func (.func 59) #[] #[]) rfl rfl;go_enter func30,ntmps30
 go_wp2_with (refine lc _ rfl _ _ _ 65 rfl 3 ChT (by kernel_rfl) (by kernel_rfl) (w.heap.size+4) _ rfl h.o _ _ rfl rfl rfl ?_;intro H x v;have y:=g.o.grown v (g.o.size) (fun k i=>by cases i;exact iX _ _);have i:=c.o.next v;clear h g v c l m o p q s t u;have h:=aa x;have g:=aa y;have c:=aa i;obtain⟨l,m,o,p,q,s,t,u⟩:=i.cells;clear x y i)
 go_ret;exact⟨_,rfl,h.o,g.o⟩
end
section
attribute [local go_sem ↓] bD bF bH bI bu
attribute [local go_sem] bc aD bh bg bK bJ bd aY be aO ax cI dC dB dt dj di dA dr dp dn bW co bO bZ bX cz cy cw cu ct cC YB bS bP bR
attribute [local go_sem ↓] xT xR xQ
attribute [local go_sem] un ul
theorem We(v:Int)(p:Pk)(h:Hs)(w:World)(ip:PkIn w w.heap.size p h)(ok:PkOk p)(hz:MV v p):
  Calls prog (wF p.kind) #[dfV v p h] w fun e w'=>e= .returned (.tuple #[.string (chB v p).1,.int .i64 (chB v p).2])/\Below w.heap.size w w':=by
 unfold wF chB;split
 ·exact UV v p h w ip ok
 split
 ·exact UT v p h w ip ok
 split
 ·exact VA v p h w ip ok
 split
 ·exact UK v p h w ip ok (hz ⟨by omega,by omega⟩)
 ·exact UU v p h w ip ok
theorem Fj(v:Int)(x:Hdr)(s:ByteArray)(w:World)(hs:s.size<=1000000000000):Calls prog (rF x.k) #[wrV v x s] w (lQ (chR v x s) w):=by
 unfold rF chR;split
 ·exact rb v x s w hs
 split
 ·exact qY v x s w hs
 split
 ·exact yV v x s w hs
 split
 ·exact oX v x s w hs
 ·exact qZ v x s w hs
theorem El{w:World}{r:Nat}(h:fQ .i64 w r ns)(k:Int){a b:Value}{is:Bool}(h1:(ia ns k).getD (.agg #[.nilFunc,.nilFunc])= .agg #[a,b])(h2:(ia ns k).isSome=is):
  (Instr.lookup 65 (.map (some r)) (.int .i64 k) true).run prog w= .ok (.tuple #[.agg #[a,b],.bool is]) w/\(Instr.lookup 65 (.map (some r)) (.int .i64 k) false).run prog w= .ok (.agg #[a,b]) w:=by
 have c:=nY (P:=prog) (t:=65) (k:=3) (e:=ChT) (z:=.agg #[.nilFunc,.nilFunc]) (by kernel_rfl) (by kernel_rfl) (by kernel_rfl) h k;rw[h1,h2]at c;exact⟨c.2,c.1⟩
def Ve(v:Int)(p:Pk):ByteArray:=if mqE v p=0 then(chB v p).1 else⟨#[]⟩
theorem UP(v:Int)(p:Pk)(h:Hs)(w:World)(ip:PkIn w w.heap.size p h)(ok:PkOk p)(hz:MV v p):
  Calls prog 20 #[.int .i64 v,pkV p h] w fun e w'=>e= .returned (.tuple #[.string (Ve v p),.int .i64 (mqE v p)])/\Below w.heap.size w w':=by
 have HE:Hid (mqE v p=if ba v=false then 2 else if dS v p.kind=false then 8 else if chE v p≠0 then chE v p else if 268435455<(chB v p).1.size then 4 else 0):=aa rfl;have l:Hid (Ve v p=if mqE v p=0 then(chB v p).1 else⟨#[]⟩):=aa rfl;have aG:=aa ok;have HZ:=aa hz;have Q:=(aq w.heap.size w).alloc (ac _) (.cells (pkC p h) PkT);have H:=aa Q;have N:=aa (ip.next Q);have s:=aa (Bk.fresh w PkT (pkC p h));clear ip ok hz Q;obtain⟨c,A⟩:∃c,w.alloc (.cells (pkC p h) PkT)=c:=⟨_,rfl⟩;have Y:Hid (w.heap.size<c.heap.size):=aa (by rw[<-A];simp);rw[A]at H N s;have aN:(F9 (pkV p h)).run prog w= .ok (.pointer (some ⟨w.heap.size,0,none⟩)) c:=by rw[<-A];exact bc p h w
 clear A;go_enter func20,ntmps20
 go_upto_region 1 with fail
 go_cut [15] (fun a G=>c=G/\a= .bool (!ba v))
 case first=>
  by_cases D:v=4
  ·have d:Hid (ba v=true):=aa (au (.inl D));have e4:(v !=4)=false:=by simp[D]
   clear D;go_wp2
   go_meet
   case rel=>exact⟨rfl,by rw[d.o];rfl⟩
  ·have e4:(v !=4)=true:=aA.2 D
   by_cases P:v=5
   ·have d:Hid (ba v=true):=aa (au (.inr P));have e5:(v !=5)=false:=by simp[P]
    clear D P;go_wp2
    go_meet
    case rel=>exact⟨rfl,by rw[d.o];rfl⟩
   ·have d:Hid (ba v=false):=aa (ah (by omega));have e5:(v !=5)=true:=aA.2 P;clear D P;go_wp2
    go_meet
    case rel=>exact⟨rfl,by rw[d.o];rfl⟩
 obtain⟨rfl,rfl⟩:=hcut;cases S:ba v
 ·have d:Hid (mqE v p=2):=aa (by rw[HE.o,if_pos S]);have m:Hid (Ve v p=⟨#[]⟩):=aa (by rw[l.o,d.o];rfl);clear S;go_wp2;go_ret2;exact⟨by rw[d.o,m.o];rfl,H.o⟩
 have K:Hid (mqE v p=if dS v p.kind=false then 8 else if chE v p≠0 then chE v p else if 268435455<(chB v p).1.size then 4 else 0):=aa (by rw[HE.o,ae (fun x=>by rw[S]at x;cases x)]);have aF:=aa S;obtain⟨B,C,an,ao,ap,T,U⟩:=Et p.kind;have O:=aa ap;have z:=aa (fun(W:World) (r:Nat) (E:fQ .i64 W r ns)=>El E p.kind an ao);have ai:=aa (fun(W:World)=>j7 W (n:=W.heap.size) rfl .nilFunc .nilFunc T U);have ag:=aa (fun(W:World) (g:Nat) (o:Bk W g ChT #[.nilFunc,.nilFunc])=>Bj o T U);have c0:=(s.o.cell 0).trans (cI p h);clear S HE an ao ap T U
 go_upto_region 3 with fail
 go_cut [6,7] (fun a b G=>∃g,a= .pointer (some ⟨g,0,none⟩)/\b= .bool (Dr p.kind)/\Bk G g ChT #[B,C]/\Below c.heap.size c G)
 case first=>
  have cA:(c.alloc (.cells #[.nilFunc,.nilFunc] ChT)).cell? ⟨w.heap.size,0,none⟩=some (.int .i64 p.kind):=((s.o.alloc _).cell 0).trans (cI p h)
  go_region_law ((first| (go_simp;go_at_call 30;refine(tC c.drew).mono ?_;rintro e f ⟨r,rfl,E,o⟩;have aO:=(z.o f r E).1;have aZ:=(z.o _ r (E.alloc (.cells #[.nilFunc,.nilFunc] ChT))).1;have aD:=ai.o f;have y:Below c.heap.size c f:=(aV (aq c.heap.size c) 1).trans o;have c2:f.cell? ⟨w.heap.size,0,none⟩=some (.int .i64 p.kind):=((s.o.below y Y.o).cell 0).trans (cI p h);have a2:(f.alloc (.cells #[.nilFunc,.nilFunc] ChT)).cell? ⟨w.heap.size,0,none⟩=some (.int .i64 p.kind):=(((s.o.below y Y.o).alloc _).cell 0).trans (cI p h)) | (go_simp;go_at_call 30;refine(tC (c.alloc (.cells #[.nilFunc,.nilFunc] ChT)).drew).mono ?_;rintro e f ⟨r,rfl,E,o⟩;have aO:=(z.o f r E).1;have hA:Below c.heap.size c (c.alloc (.cells #[.nilFunc,.nilFunc] ChT)).drew:=aV ((aq c.heap.size c).alloc (ac _) (.cells #[.nilFunc,.nilFunc] ChT)) 1;have y:Below c.heap.size c f:=Yf hA o;have aj:Bk f c.heap.size ChT #[.nilFunc,.nilFunc]:=((Bk.fresh c ChT #[.nilFunc,.nilFunc]).drewN 1).below o (by show c.heap.size<(c.alloc _).heap.size;simp);have hP:Bk (f.setCells c.heap.size 0 [B,C]) c.heap.size ChT #[B,C]:=oH [B,C] 0 aj;have hQ:Below c.heap.size c (f.setCells c.heap.size 0 [B,C]):=(y.setCell (ac _) _).setCell (ac _) _;have aD:=ag.o f c.heap.size aj;have c2:f.cell? ⟨w.heap.size,0,none⟩=some (.int .i64 p.kind):=((s.o.below y Y.o).cell 0).trans (cI p h))))
  all_goals
   go_wp2
   go_meet
   case rel=>
    first
     | with_reducible exact⟨_,rfl,rfl,Bk.fresh f ChT #[B,C],y.alloc y.size _⟩
     | with_reducible exact⟨_,rfl,rfl,hP,hQ⟩
 obtain⟨g,rfl,rfl,am,q⟩:=hcut;obtain⟨G,aP⟩:∃x,x=wc:=⟨_,rfl⟩;subst aP;have I:=aa (Yf H.o q);have ad:=aa (s.o.below q Y.o);have aw:=aa (N.o.next q);have af:=aa am;clear q am c0 H s N z ai ag aN;have c0:=(ad.o.cell 0).trans (cI p h);have j:Hid (dS v p.kind=(Dr p.kind&& !(decide (p.kind=15)&&decide (v=4)))):=aa (by
  have:=aR (show decide (v=4\/v=5)=true from aF.o);unfold dS Dr;rw[eG];simp only[eh,Bool.not_eq_true',Kz,Fx,Ip];omega)
 obtain⟨V,R⟩:∃V,Dr p.kind=V:=⟨_,rfl⟩;rw[R]at j O⊢;have aE:=aa R;clear R
 go_upto_region 4 with fail
 go_cut [33] (fun a wy=>G=wy/\a= .bool (!dS v p.kind))
 case first=>
  cases V
  ·have d:Hid (dS v p.kind=false):=aa (by rw[j.o];rfl);go_wp2
   go_meet
   case rel=>exact⟨rfl,by rw[d.o];rfl⟩
  by_cases i:p.kind=15
  rotate_left
  ·have d:Hid (dS v p.kind=true):=aa (by rw[j.o,ah i];rfl);have aI:(p.kind==15)=false:=ar.2 i;clear i;go_wp2
   go_meet
   case rel=>exact⟨rfl,by rw[d.o];rfl⟩
  have aI:(p.kind==15)=true:=aK.2 i
  by_cases F:v=4
  ·have d:Hid (dS v p.kind=false):=aa (by rw[j.o,au i,au F];rfl);have e4:(v==4)=true:=aK.2 F;clear i F;go_wp2
   go_meet
   case rel=>exact⟨rfl,by rw[d.o];rfl⟩
  ·have d:Hid (dS v p.kind=true):=aa (by rw[j.o,au i,ah F];rfl);have e4:(v==4)=false:=ar.2 F;clear i F;go_wp2
   go_meet
   case rel=>exact⟨rfl,by rw[d.o];rfl⟩
 obtain⟨rfl,rfl⟩:=hcut;cases u:dS v p.kind
 ·have d:Hid (mqE v p=8):=aa (by rw[K.o,if_pos u]);have m:Hid (Ve v p=⟨#[]⟩):=aa (by rw[l.o,d.o];rfl);clear u;go_wp2;go_ret2;exact⟨by rw[d.o,m.o];rfl,I.o⟩
 have ak:V=true:=by
  have:=j.o;rw[u]at this;cases V
  ·cases this
  ·rfl
 obtain⟨rfl,rfl⟩:=O.o ak;have L:Hid (mqE v p=if chE v p≠0 then chE v p else if 268435455<(chB v p).1.size then 4 else 0):=aa (by rw[K.o,ae (fun x=>by rw[u]at x;cases x)]);have ab:=aa (fun W ip=>We v p h W ip aG.o HZ.o);have d0:=af.o.cell 0;have l0:=cf ad.o;have en:=fun ax W=>VH (k:=p.kind) ax W;simp only[ay,aB,FC]at d0;generalize wF p.kind=WF at*;clear u j K O af aE;subst ak
 go_wp2_with fail
 refine Yg (ab.o _ aw.o) fun w3 o=>?_;have J:=aa (Yf I.o o);clear o ab c0 d0 l0 en
 by_cases t:chE v p=0
 rotate_left
 ·have d:Hid (mqE v p=chE v p):=aa (by rw[L.o,if_pos t]);have m:Hid (Ve v p=⟨#[]⟩):=aa (by rw[l.o,d.o,ae t]);rw[Wa t];generalize chE v p=x at*;have e0:(x !=0)=true:=aA.2 t;clear t;go_wp2;go_ret2;exact⟨by rw[d.o,m.o];rfl,J.o⟩
 have h2:=Wf t;have M:Hid (mqE v p=if 268435455<(chB v p).1.size then 4 else 0):=aa (by rw[L.o,ae (fun x=>x t)]);rw[h2];obtain⟨X,hX⟩:∃X,(chB v p).1=X:=⟨_,rfl⟩;rw[hX]at M l⊢;clear h2 t hX L
 by_cases Z:268435455<X.size
 ·have d:Hid (mqE v p=4):=aa (by rw[M.o,if_pos Z]);have m:Hid (Ve v p=⟨#[]⟩):=aa (by rw[l.o,d.o];rfl);have d1:(268435455:Int)<(X.size:Int):=by omega
  clear Z;go_wp2;go_ret2;exact⟨by rw[d.o,m.o];rfl,J.o⟩
 ·have d:Hid (mqE v p=0):=aa (by rw[M.o,ae Z]);have m:Hid (Ve v p=X):=aa (by rw[l.o,d.o];rfl);have d1:(X.size:Int)<=268435455:=by omega
  clear Z;go_wp2;go_ret2;exact⟨by rw[d.o,m.o];rfl,J.o⟩
end
section
attribute [local go_sem ↓] bD bF bH bI bu
attribute [local go_sem] bc aD bh bg bK bJ bd aY be aO ax cI dC dB dt dj di dA dr dp dn bW co bO bZ bX cz cy cw cu ct cC YB bS bP bR
theorem Vd(v:Int)(p:Pk)(h:Hs)(w:World)(ip:PkIn w w.heap.size p h)(ok:PkOk p)(hz:MV v p):
  Calls prog 17 #[.int .i64 v,pkV p h] w fun e w'=>e= .returned (.int .i64 (mqE v p))/\Below w.heap.size w w':=by
 have a:=(aq w.heap.size w).alloc (ac _) (.cells (pkC p h) PkT);have b:=aa a;have d:=aa (UP v p h _ (ip.next a) ok hz);clear ip ok hz a;go_enter func17,ntmps17
 go_wp2_with fail
 refine d.o.mono ?_;rintro e g ⟨rfl,f⟩;have c:=aa (Yf b.o f);clear f;go_wp2;go_ret;exact⟨rfl,c.o⟩
theorem UI(v:Int)(p:Pk)(h:Hs)(w:World)(ip:PkIn w w.heap.size p h)(ok:PkOk p)(hz:MV v p):
  Calls prog 6 #[.int .i64 v,pkV p h] w fun e w'=>e= .returned (.tuple #[.string (mqB v p).1,.int .i64 (mqB v p).2])/\Below w.heap.size w w':=by
 have j:=(aq w.heap.size w).alloc (ac _) (.cells (pkC p h) PkT);have q:=aa j;have r:=aa (Bk.fresh w PkT (pkC p h));have c:=aa (UP v p h _ (ip.next j) ok hz);clear ip ok hz j;go_enter func6,ntmps6
 go_wp2_with fail
 refine c.o.mono ?_;rintro e L ⟨rfl,a⟩;have g:=aa (Yf q.o a);have i:=aa (r.o.below a r.o.lt);clear a c q r
 by_cases d:mqE v p=0
 rotate_left
 ·have s:Hid (mqB v p=(⟨#[]⟩,mqE v p)):=aa (ae d);generalize mqE v p=x at*;have K:(x !=0)=true:=aA.2 d;clear d;go_wp2;go_ret2;exact⟨by rw[s.o];rfl,g.o⟩
 obtain⟨z,A,B,m⟩:=Ol d;obtain⟨C,D⟩:=Ma z A B;have s:Hid (mqB v p=(mqS v p,0)):=aa (if_pos d);have c:Ve v p=(chB v p).1:=if_pos d;have o:Hid (hdB v p.kind (mqF p) (chB v p).1.size=(hdS p.kind (mqF p) (chB v p).1.size,0)):=aa (if_pos D);have k:Hid (mqS v p=⟨(hdS p.kind (mqF p) (chB v p).1.size).toArray⟩++(chB v p).1):=aa rfl;have l:=aa (EC p.kind (mqF p) (chB v p).1.size);have b:=aa (fun W=>Vj v p.kind (mqF p) (chB v p).1.size W m);simp only[Cx,o.o]at b;have I:=cf i.o;rw[d,c];have f:=aa (fun W=>vp v p h W);rw[C]at f;obtain⟨X,E⟩:∃X,(chB v p).1=X:=⟨_,rfl⟩;rw[E]at b k l m⊢;obtain⟨F,hF⟩:∃F,mqF p=F:=⟨_,rfl⟩;rw[hF]at b k l f;obtain⟨Y,G⟩:∃Y,hdS p.kind F X.size=Y:=⟨_,rfl⟩;rw[G]at b k l;have y:=aa m;clear o z A B C D c E hF G d m
 go_wp2_with fail
 refine Yg (f.o _) fun M a=>?_;have n:=aa (Yf g.o a);have u:=aa (i.o.below a i.o.lt);clear a I f;have H:=(u.o.cell 0).trans (cI p h)
 go_wp2_with fail
 refine Yg (b.o _) fun N a=>?_;have t:=aa (Yf n.o a);have J:¬(9223372036854775807<Y.length+X.size):=by have:=l.o;have:=y.o;omega
 clear a b H;go_wp2;go_ret2;exact⟨by rw[s.o,k.o];rfl,t.o⟩
theorem Vq(v:Int)(p:Pk)(h:Hs)(w:World)(ip:PkIn w w.heap.size p h)(ok:PkOk p)(hz:MV v p):
  Calls prog 9 #[.int .i64 v,pkV p h] w fun e w'=>e= .returned (.tuple #[.int .i64 ((mqB v p).1.size:Nat),.int .i64 (mqB v p).2])/\Below w.heap.size w w':=by
 have a:=(aq w.heap.size w).alloc (ac _) (.cells (pkC p h) PkT);have b:=aa a;have d:=aa (UI v p h _ (ip.next a) ok hz);clear ip ok hz a;go_enter func9,ntmps9
 go_wp2_with fail
 refine d.o.mono ?_;rintro e g ⟨rfl,f⟩;have c:=aa (Yf b.o f);clear f;go_wp2;go_ret2;exact⟨rfl,c.o⟩
def Gp(v:Array (Nat×Value)):Sem Value:=Instr.build WrT v
theorem DI(v:Array (Nat×Value)):Instr.build WrT v=Gp v:=rfl
theorem Bm(v k f:Int)(n:Nat)(t:ByteArray)(w:World):(Gp #[(0,.int .i64 v),(1,.agg #[.int .i64 k,.int .i64 f,.int .i64 n]),(2,.string t)]).run prog w= .ok (wrV v ⟨k,f,n⟩ t) w:=by kernel_rfl
theorem DT(a b:FuncId)(w:World):(Instr.field ChT (.agg #[.func (.func a) #[] #[],.func (.func b) #[] #[]]) 1).run prog w= .ok (.func (.func b) #[] #[]) w:=by kernel_rfl
attribute [local go_sem ↓] DI DT
attribute [local go_sem] Bm
theorem eZ{fn:Func}{p u u':Tmp}(hr:fn.results= #[.cell p PkT,.tmp u,.tmp u'])(tmps:Array Value){w:World}{g:Nat}{q:Pk}{h:Hs}(hp:tmps.getD p undef= .pointer (some ⟨g,0,none⟩))(hb:Bk w g PkT (pkC q h)):
  (results fn tmps).run prog w= .ok (.tuple #[pkV q h,tmps.getD u undef,tmps.getD u' undef]) w:=by
 rw[ml hr,hp];have a:=Cn hb;generalize pkV q h=V at a⊢;exact kG _ (⟨g,0,none⟩:Addr) w _ rfl |>.trans (kG _ V w _ a)
def tM(r:Pk×Nat×Int)(w:World)(e:Ending)(w':World):Prop:=∃h,e= .returned (.tuple #[pkV r.1 h,.int .i64 (r.2.1:Nat),.int .i64 r.2.2])/\PkIn w' w'.heap.size r.1 h/\Below w.heap.size w w'/\ja w r.1 h
theorem gR{r:Pk×Nat×Int}{x:Int}{w w':World}(h:r=(pk0,0,x))(hb:Below w.heap.size w w'):tM r w (.returned (.tuple #[pkV pk0 hs0,.int .i64 0,.int .i64 x])) w':=by
 subst h;exact⟨hs0,rfl,wM _ _,hb,.inl rfl⟩
theorem zF{r:Pk×Nat×Int}{p:Pk}{n:Nat}{h:Hs}{w w':World}(hr:r=(p,n,0))(hi:PkIn w' w'.heap.size p h)(hb:Below w.heap.size w w')(hf:ja w p h):tM r w (.returned (.tuple #[pkV p h,.int .i64 n,.int .i64 0])) w':=by
 subst hr;exact⟨h,rfl,hi,hb,hf⟩
theorem wS(v:Int)(s:ByteArray)(w:World)(hs:s.size<=1000000000000):Calls prog 11 #[.int .i64 v,.string s] w (tM (mqR v s) w):=by
 have H:Hid (mqR v s=if(hdR v s).2.2≠0 then(pk0,0,(hdR v s).2.2)
  else if s.size<(hdR v s).2.1+(hdR v s).1.n then(pk0,0,3)
  else if(chR v (hdR v s).1 (s.extract (hdR v s).2.1 ((hdR v s).2.1+(hdR v s).1.n))).2=0 then((chR v (hdR v s).1 (s.extract (hdR v s).2.1 ((hdR v s).2.1+(hdR v s).1.n))).1,(hdR v s).2.1+(hdR v s).1.n,0)
  else(pk0,0,if(chR v (hdR v s).1 (s.extract (hdR v s).2.1 ((hdR v s).2.1+(hdR v s).1.n))).2=3 then 5 else(chR v (hdR v s).1 (s.extract (hdR v s).2.1 ((hdR v s).2.1+(hdR v s).1.n))).2)):=aa rfl
 have HS:=aa hs;have HB:=aa ((aq w.heap.size w).alloc (ac _) (.cells (pkC pk0 hs0) PkT));have HK:=aa (Bk.fresh w PkT (pkC pk0 hs0));have o:=aa (fun W=>qy v s W (by omega));have m:Hid ((hdR v s).2.2=0->dS v (hdR v s).1.k=true/\(hdR v s).1.n<=268435455/\(hdR v s).2.1<=s.size):=aa (fun h0=>by
  obtain⟨b1,b2,b3,b4,b5⟩:=kw (v:=v) (s:=s) (h:=(hdR v s).1) (a:=(hdR v s).2.1) (by rw[<-h0]);exact⟨(nf.1 b1).2.1,b2,b5⟩)
 clear hs;obtain⟨⟨⟨k,f,n⟩,a,x⟩,hr⟩:∃r,hdR v s=r:=⟨_,rfl⟩;rw[hr]at H o m;simp only[Cx]at H o m;clear hr;go_enter func11,ntmps11
 go_wp2_with fail
 refine Yg (o.o _) fun Y j=>?_;have F:=aa (Yf HB.o j);have J:=aa (HK.o.below j HK.o.lt);clear j o HB HK;obtain⟨y,X⟩:∃y,Y.alloc (.cells #[.int .i64 k,.int .i64 f,.int .i64 n] 51)=y:=⟨_,rfl⟩;have i:Hid (Below w.heap.size w y):=aa (by rw[<-X];exact F.o.alloc F.o.size _);have b:Hid (Bk y w.heap.size PkT (pkC pk0 hs0)):=aa (by rw[<-X];exact J.o.alloc _);obtain⟨U,Q⟩:∃U,Y.heap.size=U:=⟨_,rfl⟩;have t:Hid (Bk y U 51 #[.int .i64 k,.int .i64 f,.int .i64 n]):=aa (by rw[<-X,<-Q];exact Bk.fresh Y _ _)
 go_upto_region 2 with fail
 have bt:Hid (w.heap.size<U):=aa (by rw[<-Q];exact J.o.lt);clear X Q F J;clear Y;have ba:=aW b.o pk0 hs0;have G:Hid (Below w.heap.size w (dE y w.heap.size pk0 hs0)):=aa (bT i.o i.o.size (ac _) pk0 hs0);have K:=aa (cO b.o pk0 hs0)
 by_cases C:x=0
 rotate_left
 ·have g:Hid (mqR v s=(pk0,0,x)):=aa (by rw[H.o,if_pos C]);have e0:(x !=0)=true:=aA.2 C;clear C;go_wp2;refine av (eZ rfl _ rfl K.o) rfl ?_;exact gR g.o G.o
 obtain⟨b1,b2,b3⟩:=m.o C;have aL:=aa b1;have I:Hid (mqR v s=if s.size<a+n then(pk0,0,3)else if(chR v ⟨k,f,n⟩ (s.extract a (a+n))).2=0 then((chR v ⟨k,f,n⟩ (s.extract a (a+n))).1,a+n,0)
  else(pk0,0,if(chR v ⟨k,f,n⟩ (s.extract a (a+n))).2=3 then 5 else(chR v ⟨k,f,n⟩ (s.extract a (a+n))).2)):=aa (by rw[H.o,ae (fun z=>z C)])
 subst C;have HN:=aa b2;have HA:=aa b3
 have bc:=HS.o;have c0:=t.o.cell 0;have c1:=t.o.cell 1;have c2:=t.o.cell 2
 simp only[ay,aE,aB]at c0 c1 c2;clear H m b1
 by_cases p:s.size<a+n
 ·have g:Hid (mqR v s=(pk0,0,3)):=aa (by rw[I.o,if_pos p]);have d1:(s.size:Int) - (a:Int)<(n:Int):=by omega
  have d2: -9223372036854775808<=(s.size:Int) - (a:Int):=by omega
  have d3:(s.size:Int) - (a:Int)<=9223372036854775807:=by omega
  clear p;go_wp2;refine av (eZ rfl _ rfl K.o) rfl ?_;exact gR g.o G.o
 have d:Hid (mqR v s=if(chR v ⟨k,f,n⟩ (s.extract a (a+n))).2=0 then((chR v ⟨k,f,n⟩ (s.extract a (a+n))).1,a+n,0)
  else(pk0,0,if(chR v ⟨k,f,n⟩ (s.extract a (a+n))).2=3 then 5 else(chR v ⟨k,f,n⟩ (s.extract a (a+n))).2)):=aa (by rw[I.o,ae p])
 have d1:(n:Int)<=(s.size:Int) - (a:Int):=by omega
 have aG:Hid (a+n<=s.size):=aa (by omega);have d2: -9223372036854775808<=(s.size:Int) - (a:Int):=by omega
 have d3:(s.size:Int) - (a:Int)<=9223372036854775807:=by omega
 have bb:wrap64 ((s.size:Int) - (a:Int))=(s.size:Int) - (a:Int):=by unfold wrap64;omega
 have a1:wrap64 ((a:Int)+(n:Int))=((a+n:Nat):Int):=by unfold wrap64;omega
 have aY:decide ((s.size:Int) - (a:Int)<(n:Int))=false:=ah (by omega);have v1:(0:Int)<=(a:Int):=by omega
 have v2:(a:Int)<=((a+n:Nat):Int):=by omega
 have v3:((a+n:Nat):Int)<=(s.size:Int):=by omega
 clear p I
 go_upto_region 7 with fail
 obtain⟨q,hq⟩:∃q,a+n=q:=⟨_,rfl⟩;rw[show(a:Int)+(n:Int)=(q:Int) by omega];rw[hq]at d aG v2 v3;clear d1 d2 d3 bb a1 aY bc ba hq;obtain⟨T,V⟩:∃T,s.extract a q=T:=⟨_,rfl⟩;rw[V]at d;have aN:Hid (T.size<=1000000000000):=aa (by rw[<-V,aj];have:=HS.o;omega);have M:=aa (fun W=>Fj v ⟨k,f,n⟩ T W aN.o);obtain⟨R,hR⟩:∃R,chR v ⟨k,f,n⟩ T=R:=⟨_,rfl⟩;rw[hR]at d M;obtain⟨ca,cb,ax,az,aC,a4,a5⟩:=Et k;have ap:Dr k=true:=by
  have:=aR (show decide (1<=k/\(k<=14\/(k=15/\v=5)))=true from aL.o);exact au (by omega)
 obtain⟨rfl,rfl⟩:=aC ap;have L:=aa (fun(W:World) (r:Nat) (V:fQ .i64 W r ns)=>(El V k ax az).2);have en:=fun aI W=>CW (k:=k) aI W;simp only[FC]at L;clear ax az aC a4 a5 ap hR;generalize rF k=RF at*
 go_cut [6] (fun z D=>∃c,z= .int .i64 R.2/\Bk D w.heap.size PkT (pkC R.1 c)/\PkIn D D.heap.size R.1 c/\Below w.heap.size w D/\ja y R.1 c)
 case first=>
  go_region_law ((first| (go_simp;go_at_call 30;refine(tC y.drew).mono ?_;rintro e w2 ⟨r,rfl,aZ,j⟩;have bu:=L.o w2 r aZ;have A:Below y.heap.size y w2:=(aV (aq y.heap.size y) 1).trans j;have N:=t.o.below A t.o.lt;have ai:=b.o.below A b.o.lt;have k0:=N.cell 0;have k1:=N.cell 1;have k2:=N.cell 2;(simp only[ay,aE,aB]at k0 k1 k2)) | (go_simp;refine(M.o _).mono ?_;rintro e w3 ⟨c,rfl,a2,ak,an⟩;have O:=ai.below ak ai.lt;have bm:=aW O R.1 c)))
  all_goals
   go_wp2
   go_meet
   case rel=>
    have ag:Below w.heap.size w w3:=i.o.trans ((Yf A ak).mono i.o.size);exact⟨c,rfl,cO O R.1 c,a2.put O (cJ _ _ _ _) an (ch b.o.lt A.size),bT ag ag.size (ac _) R.1 c,an.mono A.size⟩
 obtain⟨c,rfl,l,aw,am,ao⟩:=hcut;obtain⟨D,bd⟩:∃x,x=wc:=⟨_,rfl⟩;subst bd;have S:=aa l;have IX:=aa aw;have BX:=aa am;have FX:=aa ao
 have lX:=cf l;have af:=aa b.o.lt;have a8:=aW l R.1 c;have a9:=aW l pk0 hs0;clear l aw am ao c0 c1 c2 en L M t b i G K v1 v2 v3 b2 b3;obtain⟨P,E⟩:=R;dsimp only at d S IX BX FX lX a8 a9⊢
 by_cases B:E=0
 ·have g:Hid (mqR v s=(P,q,0)):=aa (by rw[d.o,if_pos B]);subst B;go_wp2;refine av (eZ rfl _ rfl (cO S.o P c)) rfl ?_;exact zF g.o (IX.o.put S.o (cJ _ _ _ _) FX.o af.o) (bT BX.o BX.o.size (ac _) _ _) (FX.o.mono (pf af.o))
 ·have ad:Hid (mqR v s=(pk0,0,if E=3 then 5 else E)):=aa (by rw[d.o,ae B]);have e0:(E==0)=false:=ar.2 B;have j:Below w.heap.size w (dE D w.heap.size pk0 hs0):=bT BX.o BX.o.size (ac _) _ _;have hk:=cO S.o pk0 hs0;have Z:=aa j;have ab:=aa hk
  clear j hk
  by_cases u:E=3
  ·have g:Hid (mqR v s=(pk0,0,5)):=aa (by rw[ad.o,if_pos u]);have e3:(E==3)=true:=aK.2 u;clear u B;go_wp2;refine av (eZ rfl _ rfl ab.o) rfl ?_;exact gR g.o Z.o
  ·have g:Hid (mqR v s=(pk0,0,E)):=aa (by rw[ad.o,ae u]);have e3:(E==3)=false:=ar.2 u;clear u B;go_wp2;refine av (eZ rfl _ rfl ab.o) rfl ?_;exact gR g.o Z.o
end
end Go.Proofs.YtooikoiladioeaaGreatDoor
namespace Go.Proofs.YtooikoiladioeaaGreatDoor
open Go.ChangeShapes Go.WideShapes Go.ChangeAt Go.RowKit Go.Deep
open Go.Proofs.Tryz
set_option maxRecDepth 100000
section
variable {H:Type} {enc:TypeId×Value->H} {P:Program} {w:World} {base:Nat} {spare:Nat->Bool} {held:Bool}
theorem vz{fs:Array Field}{n:Nat}{cs:List Value}{xs:List (DataW H×List MemPlace)}
  (hf:∀(i:Nat) (f:Field),fs[i]? =some f->DataW.trod enc P w base spare held n f.type ((cs.drop f.offset).take (P.cellsOf f.type))=xs[i]?)
  (i:Nat){t:TypeId}{o k:Nat}(hi:(fs[i]?.map fun f=>(f.type,f.offset,P.cellsOf f.type))=some (t,o,k)):DataW.trod enc P w base spare held n t ((cs.drop o).take k)=xs[i]? :=by
 obtain⟨f,b,a⟩:=Option.map_eq_some_iff.1 hi;simp only[bG]at a;obtain⟨rfl,rfl,rfl⟩:=a;exact hf i f b
theorem fu.field{t:TypeId}{fs:Array Field}{ds:List (DataW H)}(ht:P.underlying t=some (.struct fs))(h:fu P t (.agg ds)){i:Nat}{u:TypeId}{d:DataW H}(hu:(fs.toList.map (·.type))[i]? =some u)(hd:ds[i]? =some d):fu P u d:=fun z a=>h z (by
 simp only[DataW.weights,ht];exact DataW.weights_mem_each hu hd z a)
theorem fu.text{t:TypeId}{s:ByteArray}(h:fu P t (.lit (.string s.data.toList):DataW H)):s.size<=140737488351232:=by
 have:=h.str
 simpa [reachBytes]using this
end
section
variable {H:Type} {enc:TypeId×Value->H} {w:World} {base:Nat} {spare:Nat->Bool} {held:Bool}
theorem Pc{n:Nat}{cs:List Value}{D:DataW H}{Pl:List MemPlace}(h:DataW.trod enc prog w base spare held n 48 cs=some (D,Pl))(hs:fu prog 48 D):∃f,cs=fiC f/\f.topic.size<=140737488351232:=by
 obtain⟨x,E,rfl,m,b,p,a⟩:=Iy underlying48 h;simp only[bG]at m;obtain⟨rfl,rfl⟩:=m;have l:prog.cellsOf 48=5:=by kernel_rfl
 rw[l]at b
 match cs,b with
 | [c0,c1,c2,c3,c4],_=>
   match x,p with
   | [y0,y1,y2,y3,y4],_=>
     have q:=vz a 0 (t:=9) (o:=0) (k:=1) (by kernel_rfl);have r:=vz a 1 (t:=3) (o:=1) (k:=1) (by kernel_rfl);have s:=vz a 2 (t:=4) (o:=2) (k:=1) (by kernel_rfl);have u:=vz a 3 (t:=4) (o:=3) (k:=1) (by kernel_rfl);have v:=vz a 4 (t:=3) (o:=4) (k:=1) (by kernel_rfl);obtain⟨y,c,rfl,_⟩:=GH underlying9 q;obtain⟨z,d,rfl,_⟩:=GB underlying3 r;obtain⟨A,e,rfl⟩:=GN underlying4 s;obtain⟨B,g,rfl⟩:=GN underlying4 u;obtain⟨C,j,rfl,_⟩:=GB underlying3 v;simp only[Yl,ji,GG,GZ,gY,Hj]at c d e g j;subst c d e g j;exact⟨⟨y,z,A,B,C⟩,rfl,(hs.field underlying48 (i:=0) rfl rfl).text⟩
theorem PH(l:List Int):l.flatMap (fun z=>[Value.int .i64 z])=iv l:=by
 induction l with
 | nil=>rfl
 | cons z l ih=>simp only[cF,ih];rfl
theorem Mr{fuel:Nat}{cs:List Value}{d:DataW H}{ps:List MemPlace}(h:DataW.trod enc prog w base spare held fuel 25 cs=some (d,ps))(hs:fu prog 25 d)(hlt:∀x∈ps,x.block<w.heap.size):
  ∃(A:Option Addr) (l:List Int) (c:Nat),cs=[.slice A l.length c]/\Rd w w.heap.size 1 A l.length (iv l)/\l.length<=140737488351232/\l.length<=c:=by
 obtain⟨A,l,c,b,a,j,e,f,m⟩:=rX (X:=Int) (k:=1) (fun z=>[Value.int .i64 z]) (fun _=>rfl) (by omega) underlying25 (by kernel_rfl) (fun _=>True)
  (fun n cs D i h hs _=>by obtain⟨z,rfl,_⟩:=GB underlying3 h;exact⟨z,rfl,trivial⟩) h hs hlt
 rw[PH]at a;refine⟨A,l,c,b,a,?_,f⟩;have g:prog.bytesOf 3=8:=by kernel_rfl
 rw[g,reachBytes]at e;omega
theorem LB{fuel:Nat}{cs:List Value}{d:DataW H}{ps:List MemPlace}(h:DataW.trod enc prog w base spare held fuel 26 cs=some (d,ps))(hs:fu prog 26 d)(hlt:∀x∈ps,x.block<w.heap.size):
  ∃(A:Option Addr) (l:List Fi) (c:Nat),cs=[.slice A l.length c]/\Rd w w.heap.size 5 A l.length (fis l)/\(∀f∈l,f.topic.size<=140737488351232)/\l.length<=140737488351232/\l.length<=c:=by
 obtain⟨A,l,c,a,b,e,g,i,m⟩:=rX fiC yH (by omega) underlying26 (by kernel_rfl) (fun f=>f.topic.size<=140737488351232) (fun n cs D k h hs _=>Pc h hs) h hs hlt;refine⟨A,l,c,a,b,e,?_,i⟩;have j:prog.bytesOf 48=40:=by kernel_rfl
 rw[j,reachBytes]at g;omega
theorem Nr{n:Nat}{cs:List Value}{D:DataW H}{Pl:List MemPlace}(h:DataW.trod enc prog w base spare held n 24 cs=some (D,Pl))(hs:fu prog 24 D)(hlt:∀x∈Pl,x.block<w.heap.size):
  ∃(x:Wl) (k:Hd),cs=[.string x.topic,.string x.payload,.int .i64 x.qos,.bool x.retain,.slice k.a x.props.length k.c]/\Rd w w.heap.size 4 k.a x.props.length (prs x.props)/\(∀p∈x.props,ea p)/\x.props.length<=2932031007317/\x.props.length<=k.c/\x.topic.size<=140737488351232/\x.payload.size<=140737488351232:=by
 obtain⟨I,P,rfl,e,d,s,b⟩:=Iy underlying24 h;simp only[bG]at e;obtain⟨rfl,rfl⟩:=e;have r:prog.cellsOf 24=5:=by kernel_rfl
 rw[r]at d
 match cs,d with
 | [c0,c1,c2,c3,c4],_=>
   match I,s with
   | [y0,y1,y2,y3,y4],_=>
     have B:=vz b 0 (t:=9) (o:=0) (k:=1) (by kernel_rfl);have C:=vz b 1 (t:=9) (o:=1) (k:=1) (by kernel_rfl);have E:=vz b 2 (t:=3) (o:=2) (k:=1) (by kernel_rfl);have F:=vz b 3 (t:=4) (o:=3) (k:=1) (by kernel_rfl);have G:=vz b 4 (t:=22) (o:=4) (k:=1) (by kernel_rfl);obtain⟨J,f,rfl,_⟩:=GH underlying9 B;obtain⟨K,g,rfl,_⟩:=GH underlying9 C;obtain⟨L,j,rfl,_⟩:=GB underlying3 E;obtain⟨M,m,rfl⟩:=GN underlying4 F;obtain⟨N,O⟩:=y4;obtain⟨A,l,c,q,u,v,y,z,_⟩:=Ki G (hs.field underlying24 (i:=4) rfl rfl) (fun x e=>hlt x (by simp[e]));simp only[Yl,ji,GG,GZ,gY,Hj]at f g j m q;subst f g j m q;exact⟨⟨J,K,L,M,l⟩,⟨A,c⟩,rfl,u,v,y,z,(hs.field underlying24 (i:=0) rfl rfl).text,(hs.field underlying24 (i:=1) rfl rfl).text⟩
theorem Oj{n:Nat}{cs:List Value}{D:DataW H}{Pl:List MemPlace}(h:DataW.trod enc prog w base spare held n PkT cs=some (D,Pl))(hs:fu prog PkT D)(hlt:∀x∈Pl,x.block<w.heap.size):
  ∃(p:Pk) (k:Hs),cs=(pkC p k).toList/\PkIn w w.heap.size p k/\PkOk p:=by
 obtain⟨xs,n',rfl,b,c,Y,a⟩:=Iy underlying28 h;simp only[bG]at b;obtain⟨rfl,rfl⟩:=b;have X:prog.cellsOf PkT=25:=by kernel_rfl
 rw[X]at c
 match cs,c with
 | [c0,c1,c2,c3,c4,c5,c6,c7,c8,c9,c10,c11,c12,c13,c14,c15,c16,c17,c18,c19,c20,c21,c22,c23,c24],_=>
   match xs,Y with
   | [y0,y1,y2,y3,y4,y5,y6,y7,y8,y9,y10,y11,y12,y13,y14,y15,y16,y17,y18,y19,y20],_=>
     have h0:=vz a 0 (t:=3) (o:=0) (k:=1) (by kernel_rfl);have h1:=vz a 1 (t:=4) (o:=1) (k:=1) (by kernel_rfl);have h2:=vz a 2 (t:=4) (o:=2) (k:=1) (by kernel_rfl);have h3:=vz a 3 (t:=3) (o:=3) (k:=1) (by kernel_rfl);have h4:=vz a 4 (t:=3) (o:=4) (k:=1) (by kernel_rfl);have h5:=vz a 5 (t:=9) (o:=5) (k:=1) (by kernel_rfl);have h6:=vz a 6 (t:=9) (o:=6) (k:=1) (by kernel_rfl);have h7:=vz a 7 (t:=4) (o:=7) (k:=1) (by kernel_rfl);have h8:=vz a 8 (t:=3) (o:=8) (k:=1) (by kernel_rfl);have h9:=vz a 9 (t:=9) (o:=9) (k:=1) (by kernel_rfl);have M:=vz a 10 (t:=4) (o:=10) (k:=1) (by kernel_rfl);have N:=vz a 11 (t:=9) (o:=11) (k:=1) (by kernel_rfl);have O:=vz a 12 (t:=4) (o:=12) (k:=1) (by kernel_rfl);have P:=vz a 13 (t:=9) (o:=13) (k:=1) (by kernel_rfl);have Q:=vz a 14 (t:=4) (o:=14) (k:=1) (by kernel_rfl);have R:=vz a 15 (t:=24) (o:=15) (k:=5) (by kernel_rfl);have S:=vz a 16 (t:=4) (o:=20) (k:=1) (by kernel_rfl);have T:=vz a 17 (t:=3) (o:=21) (k:=1) (by kernel_rfl);have U:=vz a 18 (t:=25) (o:=22) (k:=1) (by kernel_rfl);have V:=vz a 19 (t:=26) (o:=23) (k:=1) (by kernel_rfl);have W:=vz a 20 (t:=22) (o:=24) (k:=1) (by kernel_rfl);obtain⟨z0,A,rfl,_⟩:=GB underlying3 h0;obtain⟨z1,B,rfl⟩:=GN underlying4 h1;obtain⟨z2,C,rfl⟩:=GN underlying4 h2;obtain⟨z3,E,rfl,_⟩:=GB underlying3 h3;obtain⟨z4,F,rfl,_⟩:=GB underlying3 h4;obtain⟨z5,G,rfl,_⟩:=GH underlying9 h5;obtain⟨z6,I,rfl,_⟩:=GH underlying9 h6;obtain⟨z7,J,rfl⟩:=GN underlying4 h7;obtain⟨z8,K,rfl,_⟩:=GB underlying3 h8;obtain⟨z9,L,rfl,_⟩:=GH underlying9 h9;obtain⟨ah,d,rfl⟩:=GN underlying4 M;obtain⟨ai,e,rfl,_⟩:=GH underlying9 N;obtain⟨aj,f,rfl⟩:=GN underlying4 O;obtain⟨ak,g,rfl,_⟩:=GH underlying9 P;obtain⟨am,j,rfl⟩:=GN underlying4 Q;obtain⟨bc,bg⟩:=y15;obtain⟨ag,Z,l,a1,a2,a3,a4,a5,a6⟩:=Nr R (hs.field underlying28 (i:=15) rfl rfl) (fun x b=>hlt x (by simp[b]));obtain⟨an,m,rfl⟩:=GN underlying4 S;obtain⟨ao,q,rfl,_⟩:=GB underlying3 T;obtain⟨bd,bh⟩:=y18;obtain⟨v,ad,aa,r,b1,b2,b3⟩:=Mr U (hs.field underlying28 (i:=18) rfl rfl) (fun x b=>hlt x (by simp[b]));obtain⟨be,bi⟩:=y19;obtain⟨y,ae,ab,s,f1,f2,f3,f4⟩:=LB V (hs.field underlying28 (i:=19) rfl rfl) (fun x b=>hlt x (by simp[b]));obtain⟨bf,bj⟩:=y20;obtain⟨z,af,ac,u,r1,r2,r3,r4,_⟩:=Ki W (hs.field underlying28 (i:=20) rfl rfl) (fun x b=>hlt x (by simp[b]));simp only[Yl,ji,GG,GZ,gY,Hj]at A B C E F G I J K L d e f g j l m q r s u;obtain⟨q0,q1,q2,q3,q4⟩:=l;subst A B C E F G I J K L d e f g j m q r s u q0 q1 q2 q3 q4;refine⟨⟨z0,z1,z2,z3,z4,z5,z6,z7,z8,z9,ah,ai,aj,ak,am,ag,an,ao,ad,ae,af⟩,⟨Z,⟨v,aa⟩,⟨y,ab⟩,⟨z,ac⟩⟩,rfl,⟨a1,b1,f1,r1,a4,b3,f4,r4⟩,⟨a2,r2,f2,⟨(hs.field underlying28 (i:=5) rfl rfl).text,(hs.field underlying28 (i:=6) rfl rfl).text,(hs.field underlying28 (i:=9) rfl rfl).text,(hs.field underlying28 (i:=11) rfl rfl).text,(hs.field underlying28 (i:=13) rfl rfl).text,a5,a6⟩,⟨aC a3 (by decide),b2,f3,aC r3 (by decide)⟩⟩⟩
theorem Vc{r:Reach}{b0:Nat}{v:Value}{d:DataW H}{ps:List MemPlace}(hval:Value.okWide prog w r b0 PkT v)(hd:DataW.Trod enc prog w base spare held PkT v d ps)(hs:fu prog PkT d)(hlt:∀x∈ps,x.block<w.heap.size):
  ∃(p:Pk) (k:Hs),v=pkV p k/\PkIn w w.heap.size p k/\PkOk p:=by
 have g:∃a,v= .agg a:=by
  simp only[Value.okWide,show prog.underlying PkT=_ from underlying28]at hval;obtain⟨a,h,_⟩:=hval;exact⟨a,h⟩
 obtain⟨a,rfl⟩:=g;obtain⟨c,f⟩:=hd;obtain⟨p,k,b,e⟩:=Oj f hs hlt;refine⟨p,k,?_,e⟩;have b:a.toList=(pkC p k).toList:=b;rw[pkV,oz.1 b]
end
end Go.Proofs.YtooikoiladioeaaGreatDoor
namespace Go.Proofs.YtooikoiladioeaaGreatDoor
open Go.RowKit Go.Proofs.Tryz
section
attribute [local go_sem ↓] bD bF bH bI bu
attribute [local go_sem] bc aD bh bg bK bJ bd aY be aO ax cI dC dB dt dj di dA dr dp dn bW co bO bZ bX cz cy cw cu ct cC YB bS bP bR
theorem Vr:mqR 4 ⟨#[192,0]⟩=({pk0 with kind:=12},2,0):=by decide+kernel
theorem Wb(k:Int)(w:World)(B:Nat):PkIn w B {pk0 with kind:=k} hs0:=⟨Rd.nil _ _ _ _,Rd.nil _ _ _ _,Rd.nil _ _ _ _,Rd.nil _ _ _ _,ag _,ag _,ag _,ag _⟩
theorem Vt(k:Int):gz {pk0 with kind:=k}:=VR
theorem Vg(w:World):Calls prog 4 #[] w fun e w'=>e= .returned (.bool true)/\Below w.heap.size w w':=by
 have c:=aa (wS 4 ⟨#[192,0]⟩ w (by decide));rw[Vr]at c;go_enter func4,ntmps4
 go_wp2_with fail
 refine c.o.mono ?_;rintro e i h;obtain⟨K,rfl,d,a,-⟩:=h;have b:=aa (((St.start w).below a).push d);clear d a;have f:=b.o.ld 0 rfl;simp only at f⊢
 go_wp2_with fail
 refine Yg (ws {pk0 with kind:=12} {pk0 with kind:=12} K hs0 _ (b.o.into 0 rfl) (Wb 12 _ _) (Vt 12) (Vt 12)) fun j a=>?_;have g:=aa (b.o.below a);clear a f;rw[au rfl];go_wp2;go_ret;exact⟨rfl,g.o.kept⟩
theorem Qo(v:Int)(p:Pk):(mqB v p).2=mqE v p:=by
 unfold mqB;split
 ·rename_i h;exact h.symm
 ·rfl
end
section
def pks(L:List (Pk×Hs)):List Value:=L.flatMap fun x=>(pkC x.1 x.2).toList
theorem kM(x:Pk×Hs):((pkC x.1 x.2).toList).length=25:=rfl
theorem gJ(L:List (Pk×Hs)):(pks L).length=L.length*25:=iA kM L
theorem Ef:pks []=[]:=rfl
theorem m6(x:Pk×Hs)(L:List (Pk×Hs)):pks (x :: L)=(pkC x.1 x.2).toList++pks L:=rfl
theorem pE(L M:List (Pk×Hs)):pks (L++M)=pks L++pks M:=by
 unfold pks;rw[fR]
theorem mG(L:List (Pk×Hs))(i r:Nat)(h:i<L.length)(hr:r<25):(pks L)[i*25+r]? =(pkC L[i].1 L[i].2)[r]? :=by
 have:=kQ kM L i r h hr;rw[show pks L=L.flatMap fun x=>(pkC x.1 x.2).toList from rfl,this];simp
theorem ln:∀(L:List (Pk×Hs)) (n:Nat),(pks L).take (n*25)=pks (L.take n)
 | L,0=>by simp[pks]
 | [],n+1=>by simp[pks]
 | x :: L,n+1=>by
   rw[GG,m6,m6,ot,bt (by rw[kM x];omega),kM x,show(n+1)*25- 25=n*25 by omega,ln L n]
theorem uR:∀(L:List (Pk×Hs)) (n:Nat),(pks L).drop (n*25)=pks (L.drop n)
 | L,0=>by simp
 | [],n+1=>by simp[pks]
 | x :: L,n+1=>by
   rw[ji,m6,List.drop_append,gD (by rw[kM x];omega),kM x,show(n+1)*25- 25=n*25 by omega,uR L n,dX]
theorem Ee(L:List (Pk×Hs)):∀u∈pks L,u.oneCell'=true:=by
 intro u a;obtain⟨x,-,b⟩:=ou.1 a;have h:=yy x.1 x.2;rw[Array.all_eq_true_iff_forall_mem]at h;exact h u (by simpa using b)
theorem yx{L:List (Pk×Hs)}{o:Nat}{v:Value}(h:(pks L)[o]? =some v):∃i r,o=i*25+r/\r<25/\i<L.length:=by
 have a:=(cR.1 h).1;rw[gJ]at a;exact⟨o/ 25,o% 25,by omega,by omega,by omega⟩
theorem uQ(L:List (Pk×Hs)):∀(i:Nat) (n:Int),(pks L).toArray[i]? ≠some (Value.int IntKind.u32 n):=by
 intro o n h;rw[ay]at h;obtain⟨i,r,rfl,b,a⟩:=yx h;rw[mG L i r a b]at h;exact dY _ _ _ _ h
theorem BN(L:List (Pk×Hs))(o:Nat)(a:ByteArray)(b:Int)(_c d:Bool)(h0:(pks L).toArray[o]? =some (.string a))(h1:(pks L).toArray[o+1]? =some (.int .i64 b))(h3:(pks L).toArray[o+3]? =some (.bool d)):False:=by
 rw[ay]at h0 h1 h3;obtain⟨i,r,rfl,g,c⟩:=yx h0;rw[mG L i r c g]at h0;have e:r+1<25->(pkC L[i].1 L[i].2)[r+1]? =some (.int .i64 b):=fun h=>by rw[<-mG L i (r+1) c h,<-Nat.add_assoc];exact h1
 have f:r+3<25->(pkC L[i].1 L[i].2)[r+3]? =some (.bool d):=fun h=>by rw[<-mG L i (r+3) c h,<-Nat.add_assoc];exact h3
 clear h1 h3;generalize L[i]=x at*;rcases r with _| _| _| _| _| _| _| _| _| _| _| _| _| _| _| _| _| _| _| _| _| _| _| _| _| r
 all_goals first| (simp[pkC]at h0;done) | (simp[pkC]at e;done) | (simp[pkC]at f;done) | omega
theorem BM(n:Nat):(Builtin.zeroCells (pkC pk0 hs0) n).toList=pks (List.replicate n (pk0,hs0)):=by
 apply dM;intro j
 by_cases c:j<n*25
 ·have h:=mG (List.replicate n (pk0,hs0)) (j/ 25) (j% 25) (by simp;omega) (by omega);rw[show j/ 25*25+j% 25=j by omega]at h;have b:(pkC pk0 hs0)[j% 25]? =some ((pkC pk0 hs0)[j% 25]!):=by
   have a:j% 25<(pkC pk0 hs0).size:=by rw[bo];omega
   rw[eL a,getElem!_pos (pkC pk0 hs0) (j% 25) a]
  rw[h,List.getElem_replicate,b];simp[Builtin.zeroCells,bo,c]
 ·rw[aG (by rw[fT,size_zeroCells,bo];omega),aG (by rw[gJ,List.length_replicate];omega)]
theorem Rd.otherN{w w':World}{B g:Nat}{A:Option Addr}{l:List Fi}{t:TypeId}{cs:Array Value}(h:Rd w B 5 A l.length (fis l))(hbk:Bk w g t cs)
  (hcs:∀(o:Nat) (a:ByteArray) (b:Int) (_c d:Bool),cs[o]? =some (.string a)->cs[o+1]? =some (.int .i64 b)->cs[o+3]? =some (.bool d)->False)(hm:w.grownBy w' (some g))(hB:B<=w.heap.size):Rd w' B 5 A l.length (fis l):=by
 refine h.grown hm hB ?_;rintro b o rfl n rfl;cases l with
 | nil=>exact n rfl
 | cons f l=>
   obtain⟨p,q,e,-,c,j,m,k,-⟩:=h.atF (i:=0) (by simp);simp only[aX,Addr.mk.injEq]at e;obtain⟨rfl,rfl,-⟩:=e;rw[hbk.cell]at c j m k;simp only[jU,jV,List.getElem_cons_zero]at c j m k;exact hcs o _ _ false _ c j k
def gG(g:Nat)(x:Pk×Hs):Prop:=x.1.codes=[]\/∀b o,x.2.codes.a=some ⟨b,o,none⟩->b≠g
theorem FI{l:List Int}(h:iv l=[]):l=[]:=by
 cases l with
 | nil=>rfl
 | cons z l=>simp[iv]at h
theorem PkIn.apart{w:World}{p:Pk}{h:Hs}{B:Nat}(hi:PkIn w B p h){g:Nat}(hg:B<=g):gG g (p,h):=by
 rcases hi.codes.2 with a| ⟨b,o,c,f,-⟩
 ·exact .inl (FI a)
 ·refine .inr fun d i e=>?_;dsimp only at e;rw[c]at e;cases e;omega
theorem ja.apart{w:World}{p:Pk}{h:Hs}(hf:ja w p h){g:Nat}(hg:g<w.heap.size):gG g (p,h):=by
 rcases hf with a| a
 ·exact .inl a
 ·exact .inr fun b o e=>by have:=a b o e;omega
theorem PkIn.row{x y:World}{g:Nat}{p:Pk}{h:Hs}{L:List (Pk×Hs)}(hi:PkIn x x.heap.size p h)(hbk:Bk x g PkT (pks L).toArray)(hm:x.grownBy y (some g))(hf:gG g (p,h)):PkIn y y.heap.size p h:=by
 refine⟨(hi.wp.other hbk (uQ L) hm (ac _)).wider hm.size,?_,(hi.filters.otherN hbk (BN L) hm (ac _)).wider hm.size,(hi.props.other hbk (uQ L) hm (ac _)).wider hm.size,hi.caps⟩;refine(hi.codes.grown hm (ac _) ?_).wider hm.size;intro b o e a;rcases hf with h| h
 ·dsimp only at h;rw[h]at a;exact absurd rfl a
 ·exact h b o e
structure RowK (w0 w:World) (A:Option Addr) (n c:Nat) (L:List (Pk×Hs)):Prop where
 len:L.length=n
 lies:(A=none/\n=0/\c=0)\/∃g M,A=some ⟨g,0,none⟩/\w0.heap.size<=g/\Bk w g PkT (pks M).toArray/\M.length=c/\n<=c/\c<=maxLen/\M.take n=L
section
variable {w0 w y:World} {A:Option Addr} {n c:Nat} {L:List (Pk×Hs)}
theorem RowK.start(w0 w:World):RowK w0 w none 0 0 []:=⟨rfl,.inl ⟨rfl,rfl,rfl⟩⟩
theorem RowK.below(h:RowK w0 w A n c L)(hb:Below w.heap.size w y):RowK w0 y A n c L:=by
 refine⟨h.len,?_⟩;rcases h.lies with a| ⟨g,M,a,d,b,e⟩
 ·exact .inl a
 ·exact .inr ⟨g,M,a,d,b.below hb b.lt,e⟩
theorem RowK.block(h:RowK w0 w A n c L){g o:Nat}(e:A=some ⟨g,o,none⟩):w0.heap.size<=g/\g<w.heap.size:=by
 rcases h.lies with ⟨a,-⟩ | ⟨f,M,a,b,d,-⟩
 ·rw[a]at e;cases e
 ·rw[a]at e;cases e
  exact⟨b,d.lt⟩
theorem RowK.own(h:RowK w0 w A n c L){g:Nat}(e:(Value.slice A n c).ownBlock=some g):w0.heap.size<=g/\g<w.heap.size:=by
 cases A with
 | none=>cases e
 | some a=>
   obtain⟨b,o,s⟩:=a;rcases h.lies with ⟨d,-⟩ | ⟨j,M,d,f,i,-⟩
   ·cases d
   ·cases d;simp only[Value.ownBlock,aX]at e;subst e;exact⟨f,i.lt⟩
theorem RowK.cap(h:RowK w0 w A n c L):n<=c:=by
 rcases h.lies with ⟨-,a,-⟩ | ⟨g,M,a,b,d,e,f,i,j⟩<;>omega
theorem RowK.rd(h:RowK w0 w A n c L):Rd w w.heap.size 25 A n (pks L):=by
 refine⟨by rw[gJ,h.len],?_⟩;rcases h.lies with ⟨-,b,-⟩ | ⟨g,M,b,f,d,i,k,l,e⟩
 ·refine .inl ?_;have:=h.len;rw[aF (by omega:L.length=0)];rfl
 ·refine .inr ⟨g,0,b,d.lt,fun j u a=>?_⟩;rw[bV,d.cell,ay];rw[<-e,<-ln,List.getElem?_take]at a;split at a
  ·exact a
  ·cases a
theorem RowK.keep(h:RowK w0 w A n c L)(hm:w.grownBy y (Value.slice A n c).ownBlock){p:Pk}{k:Hs}(hi:PkIn w w.heap.size p k)(ha:∀g o,A=some ⟨g,o,none⟩->gG g (p,k)):PkIn y y.heap.size p k:=by
 rcases h.lies with ⟨rfl,-⟩ | ⟨g,M,rfl,-,a,-⟩
 ·exact hi.next ⟨hm.os,hm.tape,hm.output,hm.size,fun i hi=>hm.block i hi (by simp[Value.ownBlock])⟩
 ·exact hi.row a hm (ha g 0 rfl)
end
theorem vm:(prog.info? PkT).map (fun i=>(i.zero,i.size,i.bytes))=some (some (pkV pk0 hs0),25,312):=by kernel_rfl
theorem Bo{w0 w:World}{A:Option Addr}{n c:Nat}{L:List (Pk×Hs)}(hr:RowK w0 w A n c L)(h0:w0.heap.size<=w.heap.size)(ty:TypeId)(X:Addr)(N:List (Pk×Hs))(m cx B:Nat)(hN:N.length=m)(hm:0<m)(hs:Rd w B 25 (some X) m (pks N))(hb:n+m<=100000000000):
  ∃g c' w',(Builtin.append_ #[39,39] ty #[.slice A n c,.slice (some X) m cx]).run prog w= .ok (.slice (some ⟨g,0,none⟩) (n+m) c') w'/\
   RowK w0 w' (some ⟨g,0,none⟩) (n+m) c' (L++N)/\w.grownBy w' (Value.slice A n c).ownBlock/\((Value.slice A n c).ownBlock=some g\/g=w.heap.size)/\g<w'.heap.size:=by
 obtain⟨i,z,J,d,y⟩:=o8 vm;have D:=underlying39;have K:(pkV pk0 hs0).cells=pkC pk0 hs0:=rfl;have h:(pks N).length=m*i.size:=by rw[gJ,hN,d]
 have b:(L++N).length=n+m:=by rw[List.length_append,hr.len,hN]
 have l:∀j u,(pks N)[j]? =some u->w.cell? (X.add j)=some u:=by
  obtain⟨V,e,-,S⟩:=hs.addr (by
   intro e;have:=gJ N;rw[e]at this;simp at this;omega)
  cases e;exact S
 have grown:∀(a old:Nat),a=n+m->old<a->RowK w0 (w.drew.alloc (.cells ((pks L).toArray++(pks N).toArray++Builtin.zeroCells (pkV pk0 hs0).cells (grownCap w a old PkT- a)) PkT)) (some ⟨w.heap.size,0,none⟩) a (grownCap w a old PkT) (L++N)/\
   (∀row,w.grownBy (w.drew.alloc (.cells ((pks L).toArray++(pks N).toArray++Builtin.zeroCells (pkV pk0 hs0).cells (grownCap w a old PkT- a)) PkT)) row)/\w.heap.size<(w.drew.alloc (.cells ((pks L).toArray++(pks N).toArray++Builtin.zeroCells (pkV pk0 hs0).cells (grownCap w a old PkT- a)) PkT)).heap.size:=by
  intro a old v T;have G:=grownCap_ge w a old PkT;have F:grownCap w a old PkT<=maxLen:=grownCap_le_maxLen w a old PkT (by unfold maxLen;omega);refine⟨⟨by rw[b,v],.inr ⟨w.heap.size,L++N++List.replicate (grownCap w a old PkT- a) (pk0,hs0),rfl,h0,?_,?_,G,F,?_⟩⟩,fun row=>⟨rfl,rfl,rfl,by simp,fun k C _=>heap_alloc_old w.drew _ C⟩,by simp⟩
  ·have:(pks L).toArray++(pks N).toArray++Builtin.zeroCells (pkV pk0 hs0).cells (grownCap w a old PkT- a)=(pks (L++N++List.replicate (grownCap w a old PkT- a) (pk0,hs0))).toArray:=by
    apply oz.1;rw[K,Array.toList_append,Array.toList_append,BM,pE,pE]
   rw[this];exact Bk.fresh w.drew _ _
  ·rw[List.length_append,b,List.length_replicate];omega
  ·rw[eW (by rw[b];omega),bt (by rw[b];omega)]
 rcases hr.lies with ⟨rfl,rfl,rfl⟩ | ⟨g,M,rfl,O,s,t,W,Q,E⟩
 ·have R:L=[]:=aF hr.len;subst R;have f:=run_append_nil (P:=prog) w 39 ty PkT i (pkV pk0 hs0) D z J X m cx (pks N) h l hm (by omega) (by rw[y];omega);obtain⟨p,q,r⟩:=grown m 0 (by omega) hm;rw[show(pks []).toArray= #[]from rfl]at p q r;simp only[Array.empty_append]at p q r;rw[bV];exact⟨_,_,_,f,p,q _,.inr rfl,r⟩
 ·by_cases o:n+m<=c
  ·have f:=run_append_room (P:=prog) w 39 ty PkT i D z g n c (pks M).toArray s X m cx (pks N) h l (Ee N) o (by rw[d,gJ,hN,WO,gJ,t];omega);refine⟨g,c,_,f,⟨b,.inr ⟨g,M.take n++N++M.drop (n+m),rfl,O,?_,?_,o,Q,?_⟩⟩,⟨rfl,rfl,rfl,by simp,fun k _ C=>setRow_other w g k _ (fun e=>C (by simp[Value.ownBlock,e]))⟩,.inl rfl,?_⟩
   ·have:=setRow_heap w g (pks M).toArray ((pks M).take (n*i.size)++pks N++(pks M).drop (n*i.size+(pks N).length)).toArray PkT (0,0) s;unfold Bk;rw[pE,pE,<-ln,<-uR];rw[h,d,<-iK]at this⊢;exact this
   ·rw[List.length_append,List.length_append,cY,bU,hN,t];omega
   ·rw[eW (by rw[List.length_append,cY,hN,t];omega),bt (by rw[List.length_append,cY,hN,t];omega),E]
   ·simpa using s.lt
  ·have H:(pks L).length=n*i.size:=by rw[gJ,hr.len,d]
   have U:=hr.rd;have I:∀j u,(pks L)[j]? =some u->w.cell? ((⟨g,0,none⟩:Addr).add j)=some u:=by
    intro j u x;rw[Addr.add_lit,bV,s.cell,ay];rw[<-E,<-ln,List.getElem?_take]at x;split at x
    ·exact x
    ·cases x
   have f:=run_append_grow (P:=prog) w 39 ty PkT i (pkV pk0 hs0) D z J ⟨g,0,none⟩ n c (pks L) H I X m cx (pks N) h l (by omega) (by omega) (growslice_fits (by omega) (by rw[y];omega));obtain⟨p,q,r⟩:=grown (n+m) c rfl (by omega);exact⟨_,_,_,f,p,q _,.inr rfl,r⟩
theorem DB{w:World}{o:Oper}{a:Act}{K:Act->World->Prop}{Q:Exit->Act->World->Prop}(s x:Operand)
  (ho:o.op= .call {callee:=.builtin .append,args:=#[s,x],argTypes:=#[39,39]})
  {w0:World}{A:Option Addr}{n c:Nat}{L:List (Pk×Hs)}(hs:a.eval s= .slice A n c)(hr:RowK w0 w A n c L)(h0:w0.heap.size<=w.heap.size)(X:Addr)(N:List (Pk×Hs))(m cx B:Nat)(hx:a.eval x= .slice (some X) m cx)(hN:N.length=m)(hm:0<m)(hsr:Rd w B 25 (some X) m (pks N))(hb:n+m<=100000000000)
  (h:∀g c' w',RowK w0 w' (some ⟨g,0,none⟩) (n+m) c' (L++N)->w.grownBy w' (Value.slice A n c).ownBlock->((Value.slice A n c).ownBlock=some g\/g=w.heap.size)->g<w'.heap.size->K (a.put o.dst (.slice (some ⟨g,0,none⟩) (n+m) c')) w'):o.wp prog a w K Q:=by
 obtain⟨g,c',w',b,d,e,f,i⟩:=Bo hr h0 o.type X N m cx B hN hm hsr hb;unfold Oper.wp execOp;simp only[ho,resolve,invoke,builtin,Sem.run_bind,Sem.run_pure,ik,kD,fI,gC,hs,hx,b];exact h g c' w' d e f i
theorem oE{w:World}{ops:Array Oper}{rest:List Oper}{o:Oper}{a:Act}{Q:Exit->Act->World->Prop}(hgd:o.guard=none)(s x:Operand)
  (ho:o.op= .call {callee:=.builtin .append,args:=#[s,x],argTypes:=#[39,39]})
  {w0:World}{A:Option Addr}{n c:Nat}{L:List (Pk×Hs)}(hs:a.eval s= .slice A n c)(hr:RowK w0 w A n c L)(h0:w0.heap.size<=w.heap.size)(X:Addr)(N:List (Pk×Hs))(m cx B:Nat)(hx:a.eval x= .slice (some X) m cx)(hN:N.length=m)(hm:0<m)(hsr:Rd w B 25 (some X) m (pks N))(hb:n+m<=100000000000)
  (h:∀g c' w',RowK w0 w' (some ⟨g,0,none⟩) (n+m) c' (L++N)->w.grownBy w' (Value.slice A n c).ownBlock->((Value.slice A n c).ownBlock=some g\/g=w.heap.size)->g<w'.heap.size->wpList prog ops Q rest (a.put o.dst (.slice (some ⟨g,0,none⟩) (n+m) c')) w'):wpList prog ops Q (o :: rest) a w:=
 lb hgd fun _ i=>DB s x ho hs hr h0 X N m cx B hx hN hm hsr hb fun g c' w' b d e f=>i _ _ (h g c' w' b d e f)
def Gn(v:Array (Nat×Value)):Sem Value:=Instr.buildSlice 39 1 v
theorem xS(v:Array (Nat×Value)):Instr.buildSlice 39 1 v=Gn v:=rfl
theorem um(p:Pk)(h:Hs)(w:World):(Gn #[(0,pkV p h)]).run prog w= .ok (.slice (some ⟨w.heap.size,0,none⟩) 1 1) (w.alloc (.cells (pkC p h) PkT)):=by kernel_rfl
theorem Fs(W:World)(p:Pk)(h:Hs){g:Nat}(hg:W.heap.size=g):Rd (W.alloc (.cells (pkC p h) PkT)) (g+1) 25 (some ⟨g,0,none⟩) 1 (pks [(p,h)]):=by
 subst hg;refine⟨by rw[gJ];rfl,.inr ⟨_,0,rfl,ed _,fun j u a=>?_⟩⟩;rw[bV,(Bk.fresh W PkT (pkC p h)).cell];have e:pks [(p,h)]=(pkC p h).toList:=by rw[m6,Ef,cW]
 rw[e]at a
 simpa using a
structure RdK (w:World) (A:Option Addr) (n:Nat) (L:List (Pk×Hs)):Prop where
 rd:Rd w w.heap.size 25 A n (pks L)
 ins:∀x∈L,PkIn w w.heap.size x.1 x.2
theorem RdK.below{w y:World}{A:Option Addr}{n:Nat}{L:List (Pk×Hs)}(h:RdK w A n L)(hb:Below w.heap.size w y):RdK y A n L:=⟨(h.rd.below hb).wider hb.size,fun x a=>(h.ins x a).next hb⟩
theorem RdK.len{w:World}{A:Option Addr}{n:Nat}{L:List (Pk×Hs)}(h:RdK w A n L):L.length=n:=by
 have a:=h.rd.1;rw[gJ]at a;omega
theorem RdK.at{w:World}{A:Option Addr}{n:Nat}{L:List (Pk×Hs)}(h:RdK w A n L){i:Nat}(hi:i<n):∃b o p k,A=some ⟨b,o,none⟩/\L[i]? =some (p,k)/\b<w.heap.size/\
  (∀y,Below w.heap.size w y->(kZ (.pointer (some ⟨b,o+i*25,none⟩))).run prog y= .ok (pkV p k) y)/\PkIn w w.heap.size p k:=by
 have m:=h.len;have a:i<L.length:=by omega
 rcases h.rd.2 with e| ⟨b,o,rfl,d,f⟩
 ·have:=gJ L;rw[e]at this;simp at this;omega
 ·refine⟨b,o,L[i].1,L[i].2,rfl,List.getElem?_eq_getElem a,d,fun y l=>?_,h.ins _ (iY a)⟩;unfold kZ;refine run_loadAt_mid y b (o+i*25) PkT (pkC L[i].1 L[i].2).toList _ ?_ underlying28 rfl (by rw[fT,bo];exact tk);intro j u c;have g:j<25:=by
   rcases fj j 25 with h| h
   ·exact h
   ·rw[aG (by rw[kM];exact h)]at c;cases c
  rw[Nat.add_assoc,l.cell (p:=⟨b,o+(i*25+j),none⟩) d];refine f (i*25+j) u ?_;rw[mG L i j a g]
  simpa using c
structure RowI (w0 w:World) (A:Option Addr) (n c:Nat) (L:List (Pk×Hs)):Prop where
 row:RowK w0 w A n c L
 ins:∀x∈L,PkIn w w.heap.size x.1 x.2
 apart:∀x∈L,∀g o,A=some ⟨g,o,none⟩->gG g x
section
variable {w0 w y:World} {A:Option Addr} {n c:Nat} {L:List (Pk×Hs)}
theorem RowI.start(w0 w:World):RowI w0 w none 0 0 []:=⟨RowK.start _ _,by simp,by simp⟩
theorem RowI.below(h:RowI w0 w A n c L)(hb:Below w.heap.size w y):RowI w0 y A n c L:=⟨h.row.below hb,fun x a=>(h.ins x a).next hb,h.apart⟩
theorem RowI.read(h:RowI w0 w A n c L):RdK w A n L:=⟨h.row.rd,h.ins⟩
theorem RowI.more(h:RowI w0 w A n c L){g c' m:Nat}{N:List (Pk×Hs)}(hr:RowK w0 y (some ⟨g,0,none⟩) (n+m) c' (L++N))(hm:w.grownBy y (Value.slice A n c).ownBlock)(hg:(Value.slice A n c).ownBlock=some g\/g=w.heap.size)
  (hi:∀x∈N,PkIn w w.heap.size x.1 x.2)(ha:∀x∈N,∀g o,A=some ⟨g,o,none⟩->gG g x):RowI w0 y (some ⟨g,0,none⟩) (n+m) c' (L++N):=by
 have i:∀x∈L++N,PkIn w w.heap.size x.1 x.2:=fun x d=>(cj.1 d).elim (h.ins x) (hi x);have f:∀x∈L++N,∀g o,A=some ⟨g,o,none⟩->gG g x:=fun x d=>(cj.1 d).elim (h.apart x) (ha x);refine⟨hr,fun x d=>h.row.keep hm (i x d) (f x d),fun x d k o e=>?_⟩;cases e;rcases hg with hg| hg
 ·cases A with
  | none=>cases hg
  | some a=>
    obtain⟨b,o,s⟩:=a;rcases h.row.lies with ⟨j,-⟩ | ⟨k,M,j,-⟩
    ·cases j
    ·cases j;simp only[Value.ownBlock,aX]at hg;subst hg;exact f x d _ 0 rfl
 ·exact(i x d).apart (by omega)
end
end
theorem UD(v:Int)(s:ByteArray)(f a:Nat)(l:List Pk):Ux v s (f+1) a l=
  if(mqR v (s.extract a s.size)).2.2=3 then(l,a,0)
  else if(mqR v (s.extract a s.size)).2.2≠0 then(l,a,(mqR v (s.extract a s.size)).2.2)
  else Ux v s f (a+(mqR v (s.extract a s.size)).2.1) (l++[(mqR v (s.extract a s.size)).1]):=rfl
end Go.Proofs.YtooikoiladioeaaGreatDoor
