/- Parts: SsC, SsD, SsE, SsF. -/
import Derived.Test.YtemooicddjimbaaGreatDoorTlG0Rlm
import Derived.Laws.EntriesVeiled
set_option maxRecDepth 10000
set_option maxHeartbeats 8000000
namespace Go.Proofs.YtemooicddjimbaaGreatDoor
open Go.RowKit Go.Proofs.Tryz
section
attribute [local go_sem ↓] bD bF bH bI bu ZW ZX ZY ZZ ZV
attribute [local go_sem] bc aD bh bg bK bJ bd aY be aO ax cI dC dB dt dj di dA dr dp dn bW co YK bZ YM cz cy cw cu YL YP YB bS bP bR
attribute [local go_sem] ZC ZE ZD
theorem aa4(pr kd:Int)(p:Pk)(h:Hs):(evC pr kd p h)[8]? =some (.slice none 0 0):=by kernel_rfl
theorem aaB(pr kd:Int)(p:Pk)(h:Hs):(evC pr kd p h)[10]? =some (.slice none 0 0):=by kernel_rfl
theorem Z7(pr kd:Int)(p:Pk)(h:Hs):(evC pr kd p h)[56]? =some (.slice none 0 0):=by kernel_rfl
structure ES (w:World) (pr kd:Int) (p:Pk) (h k:Hs) (x:World):Prop where
 b1:Bk x w.heap.size EvT (evC pr kd p h)
 b2:Bk x (w.heap.size+1) EvT (evC 0 0 pk0 hs0)
 b3:Bk x (w.heap.size+1+1) EvT (evC pr kd p k)
 low:Below w.heap.size w x
section
variable {w x y:World} {pr kd:Int} {p:Pk} {h k:Hs}
theorem ES.set(s:ES w pr kd p h k x){i:Nat}{v:Value}(hv:(evC pr kd p k)[i]? =some v):ES w pr kd p h k (x.setCell ⟨w.heap.size+1+1,i,none⟩ v):=
 ⟨s.b1.other (p:=⟨w.heap.size+1+1,i,none⟩) (show w.heap.size≠w.heap.size+1+1 by omega) v,s.b2.other (p:=⟨w.heap.size+1+1,i,none⟩) (show w.heap.size+1≠w.heap.size+1+1 by omega) v,s.b3.same hv,dw s.low (YR x (w.heap.size+1+1) i v) s.low.size (by omega)⟩
theorem ES.below(s:ES w pr kd p h k x)(hb:Below x.heap.size x y):ES w pr kd p h k y:=⟨Yh s.b1 hb,Yh s.b2 hb,Yh s.b3 hb,Yf s.low hb⟩
theorem ES.pk(s:ES w pr kd p h h x)(k:Hs):(zc (.pointer (some ⟨w.heap.size+1+1,12,none⟩)) (pkV p k)).run prog x= .ok () (x.setCells (w.heap.size+1+1) 12 (pkC p k).toList)/\ES w pr kd p h k (x.setCells (w.heap.size+1+1) 12 (pkC p k).toList):=by
 obtain⟨b,c⟩:=aaw s.b3 k;have a:=Za (w.heap.size+1+1) (pkC p k).toList 12 x x (jy x _);exact⟨b,s.b1.app (v:=.slice (some ⟨w.heap.size+1+1,0,none⟩) 0 0) a (by simp[Value.ownBlock];omega),s.b2.app (v:=.slice (some ⟨w.heap.size+1+1,0,none⟩) 0 0) a (by simp[Value.ownBlock]),c,dw s.low a s.low.size (by omega)⟩
end
theorem Zb(w:World)(pr kd pr' kd':Int)(p q:Pk)(h k:Hs):(aaM (.pointer (some ⟨w.heap.size,0,none⟩)) (evV pr' kd' q k)).run prog (w.alloc (.cells (evC pr kd p h) EvT))= .ok () (w.alloc (.cells (evC pr' kd' q k) EvT)):=by
 rw[ZB (Bk.fresh w EvT (evC pr kd p h))];unfold aaZ;rw[io,qa (by rw[Y5,Y5])]
attribute [local irreducible] evC
theorem aan(pr kd:Int)(p:Pk)(h:Hs)(hn:NoLists p)(w:World):Calls prog 415 #[evV pr kd p h] w fun e w'=>∃k,e= .returned (evV pr kd p k)/\Below w.heap.size w w':=by
 have r:=aa hn;have t:(aaM (.pointer (some ⟨w.heap.size+1+1,0,none⟩)) (evV pr kd p h)).run prog (((w.alloc (.cells (evC pr kd p h) EvT)).alloc (.cells (evC 0 0 pk0 hs0) EvT)).alloc (.cells (evC 0 0 pk0 hs0) EvT))=
   .ok () (((w.alloc (.cells (evC pr kd p h) EvT)).alloc (.cells (evC 0 0 pk0 hs0) EvT)).alloc (.cells (evC pr kd p h) EvT)):=by
  have u:((w.alloc (.cells (evC pr kd p h) EvT)).alloc (.cells (evC 0 0 pk0 hs0) EvT)).heap.size=w.heap.size+1+1:=by simp
  have:=Zb ((w.alloc (.cells (evC pr kd p h) EvT)).alloc (.cells (evC 0 0 pk0 hs0) EvT)) 0 0 pr kd pk0 p hs0 h;rw[u]at this;exact this
 have v:(aaQ (.pointer (some ⟨w.heap.size,0,none⟩))).run prog ((w.alloc (.cells (evC pr kd p h) EvT)).alloc (.cells (evC 0 0 pk0 hs0) EvT))= .ok (evV pr kd p h) ((w.alloc (.cells (evC pr kd p h) EvT)).alloc (.cells (evC 0 0 pk0 hs0) EvT)):=aaJ ((Bk.fresh w EvT (evC pr kd p h)).alloc _);have f:Hid (ES w pr kd p h h (((w.alloc (.cells (evC pr kd p h) EvT)).alloc (.cells (evC 0 0 pk0 hs0) EvT)).alloc (.cells (evC pr kd p h) EvT))):=aa
  ⟨((Bk.fresh w EvT (evC pr kd p h)).alloc _).alloc _,(by simpa using Bk.fresh (w.alloc (.cells (evC pr kd p h) EvT)) EvT (evC 0 0 pk0 hs0):Bk _ (w.heap.size+1) EvT (evC 0 0 pk0 hs0)).alloc _,
    by simpa using Bk.fresh ((w.alloc (.cells (evC pr kd p h) EvT)).alloc (.cells (evC 0 0 pk0 hs0) EvT)) EvT (evC pr kd p h),(((aq w.heap.size w).alloc (ac _) _).alloc (by simp) _).alloc (by simp;omega) _⟩
 clear hn;go_enter func415,ntmps415
 go_upto_region 2 with fail
 clear t v;generalize (((w.alloc (.cells (evC pr kd p h) EvT)).alloc (.cells (evC 0 0 pk0 hs0) EvT)).alloc (.cells (evC pr kd p h) EvT))=x0 at*;have a:x0.cell? ⟨w.heap.size,8,none⟩=some (.slice none 0 0):=(f.o.b1.cell 8).trans (aa4 _ _ _ _);have c:=f.o.b3.free 8;have d:=(f.o.b3.cell 8).trans (aa4 _ _ _ _);have g:=aa (f.o.set (aa4 pr kd p h))
 go_wp2_with fail
 refine(aaC _).mono ?_;rintro e x ⟨rfl,rfl⟩
 go_upto_region 3 with fail
 generalize (x0.setCell ⟨w.heap.size+1+1,8,none⟩ (.slice none 0 0))=x1 at*;clear a c d f;have a:x1.cell? ⟨w.heap.size,10,none⟩=some (.slice none 0 0):=(g.o.b1.cell 10).trans (aaB _ _ _ _);have c:=g.o.b3.free 10;have d:=(g.o.b3.cell 10).trans (aaB _ _ _ _);have j:=aa (g.o.set (aaB pr kd p h))
 go_wp2_with fail
 refine(aaD _).mono ?_;rintro e x ⟨rfl,rfl⟩
 go_upto_region 4 with fail
 generalize (x1.setCell ⟨w.heap.size+1+1,10,none⟩ (.slice none 0 0))=x2 at*;clear a c d g;have a:=abf j.o.b1
 go_wp2_with fail
 refine(ZN p h r.o _).mono ?_;rintro e y ⟨k,rfl,n⟩;have m:=aa (j.o.below n);clear n a j;obtain⟨a,o⟩:=m.o.pk k;have i:=aa o;clear o
 go_upto_region 5 with fail
 generalize y.setCells (w.heap.size+1+1) 12 (pkC p k).toList=x4 at*;clear a m;have a:x4.cell? ⟨w.heap.size,56,none⟩=some (.slice none 0 0):=(i.o.b1.cell 56).trans (Z7 _ _ _ _);have c:=i.o.b3.free 56;have d:=(i.o.b3.cell 56).trans (Z7 _ _ _ _);have b:=aa (i.o.set (Z7 pr kd p k))
 go_upto_region 6 with fail
 generalize (x4.setCell ⟨w.heap.size+1+1,56,none⟩ (.slice none 0 0))=x5 at*;clear a c d i;have a:x5.cell? ⟨w.heap.size,56,none⟩=some (.slice none 0 0):=(b.o.b1.cell 56).trans (Z7 _ _ _ _);have c:=aaJ b.o.b3;have d:=ZB (pr':=pr) (kd':=kd) (q:=p) (k:=k) b.o.b2;have s:=aa (aaY b.o.b2 pr kd p k);have l:=aa (dw b.o.low (Za (w.heap.size+1) (evC pr kd p k).toList 0 x5 x5 (jy x5 _)) b.o.low.size (by omega));go_wp2
 go_loopw [25] (fun z wr=>z= .int .i64 0/\wr=x5) (fun _ _=>0)
 case atStart=>exact⟨rfl,rfl⟩
 case round=>
  obtain⟨rfl,rfl⟩:=hrel;go_wp2;refine av (ZF rfl _ rfl s.o) rfl ?_;exact⟨k,rfl,l.o⟩
end
section
attribute [local go_sem ↓] bD bF bH bI bu ZW ZX ZY ZZ ZV aaG
attribute [local go_sem] bc aD bh bg bK bJ bd aY be aO ax cI dC dB dt dj di dA dr dp dn bW co YK bZ YM cz cy cw cu YL YP YB bS bP bR
attribute [local go_sem] ZC ZE ZD aaf
attribute [local irreducible] evC
theorem ZI(pr:Int)(p:Pk)(h:Hs)(w:World):Calls prog 413 #[.int .i64 pr,pkV p h] w fun e w'=>e= .returned (evV pr 2 p h)/\Below w.heap.size w w':=by
 have a:=aa (((aq w.heap.size w).alloc (ac _) (.cells (pkC p h) PkT)).alloc (by simp) (.cells (evC pr 2 p h) EvT));have f:(kZ (.pointer (some ⟨w.heap.size,0,none⟩))).run prog ((w.alloc (.cells (pkC p h) PkT)).alloc (.cells (evC 0 0 pk0 hs0) EvT))= .ok (pkV p h) ((w.alloc (.cells (pkC p h) PkT)).alloc (.cells (evC 0 0 pk0 hs0) EvT)):=cf ((Bk.fresh w PkT (pkC p h)).alloc _);have d:(aaM (.pointer (some ⟨w.heap.size+1,0,none⟩)) (evV pr 2 p h)).run prog ((w.alloc (.cells (pkC p h) PkT)).alloc (.cells (evC 0 0 pk0 hs0) EvT))= .ok () ((w.alloc (.cells (pkC p h) PkT)).alloc (.cells (evC pr 2 p h) EvT)):=by
  have c:(w.alloc (.cells (pkC p h) PkT)).heap.size=w.heap.size+1:=by simp
  have:=Zb (w.alloc (.cells (pkC p h) PkT)) 0 0 pr 2 pk0 p hs0 h;rw[c]at this;exact this
 have b:Hid (Bk ((w.alloc (.cells (pkC p h) PkT)).alloc (.cells (evC pr 2 p h) EvT)) (w.heap.size+1) EvT (evC pr 2 p h)):=aa (by simpa using Bk.fresh (w.alloc (.cells (pkC p h) PkT)) EvT (evC pr 2 p h));go_enter func413,ntmps413;go_wp2;refine av (ZF rfl _ rfl b.o) rfl ?_;exact⟨rfl,a.o⟩
theorem abc(w:World):Calls prog 411 #[.int .i64 4] w fun e w'=>e= .returned (.tuple #[.int .i64 1,.bool true])/\w=w':=by
 go_enter func411,ntmps411;go_wp2;go_ret2;exact⟨rfl,rfl⟩
theorem aaA(p:Pk)(h:Hs)(hn:NoLists p)(hk:p.kind≠3)(he:mqE 4 p=0)(ok:PkOk p)(w:World)(ip:PkIn w w.heap.size p h):
  Calls prog 410 #[.int .i64 4,pkV p h] w fun e w'=>∃k,e= .returned (.tuple #[evV 1 2 p k,.int .i64 0])/\Below w.heap.size w w':=by
 have y:=aa hn;have C:(p.kind==3)=false:=ar.2 hk;have v:=Bk.fresh w PkT (pkC p h);have b:=aa (v.alloc (.cells (evC 0 0 pk0 hs0) EvT));have c:Hid (Bk ((w.alloc (.cells (pkC p h) PkT)).alloc (.cells (evC 0 0 pk0 hs0) EvT)) (w.heap.size+1) EvT (evC 0 0 pk0 hs0)):=aa (by simpa using Bk.fresh (w.alloc (.cells (pkC p h) PkT)) EvT (evC 0 0 pk0 hs0));have d:=aa (((aq w.heap.size w).alloc (ac _) (.cells (pkC p h) PkT)).alloc (by simp) (.cells (evC 0 0 pk0 hs0) EvT));have i:=aa (fun(x:World) (a:Below w.heap.size w x)=>Vd 4 p h x (ip.next a) ok (aaS he));rw[he]at i;clear hn hk he ok ip v;go_enter func410,ntmps410
 go_wp2_with fail
 refine(abc _).mono ?_;rintro e x ⟨rfl,rfl⟩;obtain⟨E,r⟩:∃x,(w.alloc (.cells (pkC p h) PkT)).alloc (.cells (evC 0 0 pk0 hs0) EvT)=x:=⟨_,rfl⟩;rw[r]at b c d⊢;clear r;have s:=cf b.o
 go_wp2_with fail
 refine Yg (i.o _ d.o) fun B a=>?_;have j:=aa (Yh b.o a);have l:=aa (Yh c.o a);have f:=aa (Yf d.o a)
 clear a s b c d i;have A:B.cell? ⟨w.heap.size,0,none⟩=some (.int .i64 p.kind):=(j.o.cell 0).trans (cI _ _);have s:=cf j.o
 go_wp2_with fail
 refine Yg (ZI 1 p h _) fun F a=>?_;have m:=aa (Yh l.o a);have g:=aa (Yf f.o a)
 clear a s A j l f
 go_wp2_with fail
 refine(aan 1 2 p h y.o _).mono ?_;rintro e t ⟨k,rfl,a⟩;have o:=aa (Yh m.o a);have n:=aa (Yf g.o a)
 clear a m g;have D:=ZB (pr':=1) (kd':=2) (q:=p) (k:=k) o.o;have z:=aa (aaY o.o 1 2 p k);have u:=aa (dw n.o (Za (w.heap.size+1) (evC 1 2 p k).toList 0 t t (jy t _)) n.o.size (by omega));go_wp2;refine av (aax rfl _ rfl z.o) rfl ?_;exact⟨k,rfl,u.o⟩
end
section
attribute [local go_sem ↓] bD bF bH bI bu ZW ZX ZY ZZ ZV aaG
attribute [local go_sem] bc aD bh bg bK bJ bd aY be aO ax cI dC dB dt dj di dA dr dp dn bW co YK bZ YM cz cy cw cu YL YP YB bS bP bR
attribute [local go_sem] ZC ZE ZD aaf
theorem aah(pr kd:Int)(p:Pk)(h:Hs)(w:World):(aaQ (.pointer (some ⟨w.heap.size,0,none⟩))).run prog (w.alloc (.cells (evC pr kd p h) EvT))= .ok (evV pr kd p h) (w.alloc (.cells (evC pr kd p h) EvT)):=aaJ (Bk.fresh w EvT (evC pr kd p h))
attribute [local go_sem] aah Zb
attribute [local irreducible] evC
def aaL(w0 w:World)(v:Value):Prop:=∃q c,v= .slice (some ⟨q,0,none⟩) 1 c/\w0.heap.size<=q/\w.cell? ⟨q,1,none⟩=some (.int .i64 2)/\w.cell? ⟨q,12,none⟩=some (.int .i64 12)
theorem aa2:(prog.info? EvT).map (fun i=>(i.zero.isSome,i.size,decide (i.bytes<=100000)))=some (true,57,true):=by kernel_rfl
theorem abp(pr kd:Int)(p:Pk)(h:Hs):(evC pr kd p h)[1]? =some (.int .i64 kd):=by kernel_rfl
theorem abo(pr kd:Int)(p:Pk)(h:Hs):(evC pr kd p h)[12]? =some (.int .i64 p.kind):=by kernel_rfl
theorem aaP{w:World}{g:Nat}{pr kd:Int}{p:Pk}{h:Hs}(hb:Bk w g EvT (evC pr kd p h))(ty:TypeId):
  ∃c w',(Builtin.append_ #[60,60] ty #[.slice none 0 0,.slice (some ⟨g,0,none⟩) 1 1]).run prog w= .ok (.slice (some ⟨w.heap.size,0,none⟩) 1 c) w'/\Below w.heap.size w w'/\∀j,j<57->w'.cell? ⟨w.heap.size,j,none⟩=(evC pr kd p h)[j]? :=by
 have b:=aa2;cases a:prog.info? EvT with
 | none=>rw[a]at b;cases b
 | some i=>
   rw[a]at b;simp only[Option.map_some,aX,bG,Fx]at b;obtain⟨d,k,q⟩:=b;obtain⟨z,n⟩:=Option.isSome_iff_exists.1 d;have e:=run_append_nil (P:=prog) (w:=w) 60 ty EvT i z underlying60 a n ⟨g,0,none⟩ 1 1 (evC pr kd p h).toList (by rw[fT,Y5,k]) (fun j v f=>by
    have d:=hb.cell j;rw[Array.getElem?_toList]at f;rcases dh j with rfl| o
    ·exact d.trans f
    ·rw[show(⟨g,0,none⟩:Addr).add j=⟨g,j,none⟩ by simp[Addr.add];omega];exact d.trans f) (by decide) (by decide) (by omega)
   refine⟨_,_,e,(aV (aq w.heap.size w) 1).alloc (ac _) _,fun j l=>?_⟩;have m:=Bk.fresh (w.drewN 1) EvT ((evC pr kd p h).toList.toArray++Builtin.zeroCells z.cells (grownCap w 1 0 EvT- 1));have:=m.cell j;rw[Array.getElem?_append_left (by rw[Array.toArray_toList,Y5];exact l),Array.toArray_toList]at this;exact this
theorem aab{w:World}{ops:Array Oper}{rest:List Oper}{o:Oper}{a:Act}{Q:Exit->Act->World->Prop}(hgd:o.guard=none)(s x:Operand)
  (ho:o.op= .call {callee:=.builtin .append,args:=#[s,x],argTypes:=#[60,60]})
  {g:Nat}{pr kd:Int}{p:Pk}{h:Hs}(hs:a.eval s= .slice none 0 0)(hx:a.eval x= .slice (some ⟨g,0,none⟩) 1 1)(hb:Bk w g EvT (evC pr kd p h))
  (hK:∀c w',Below w.heap.size w w'->(∀j,j<57->w'.cell? ⟨w.heap.size,j,none⟩=(evC pr kd p h)[j]?)->wpList prog ops Q rest (a.put o.dst (.slice (some ⟨w.heap.size,0,none⟩) 1 c)) w'):wpList prog ops Q (o :: rest) a w:=by
 obtain⟨c,w',b,e,f⟩:=aaP hb o.type;refine Y6 hgd fun _ d=>?_;unfold Oper.wp execOp;simp only[ho,resolve,invoke,builtin,Sem.run_bind,Sem.run_pure,ik,kD,fI,gC,hs,hx,b];exact d _ _ (hK c w' e f)
def OmL(w0 w2:World)(ov zv:Value)(wr:World):Prop:=(zv= .int .i64 0/\ov= .slice none 0 0/\wr=w2)\/(zv= .int .i64 1/\aaL w0 wr ov/\Below w2.heap.size w2 wr)
def omV(g:Nat):Value:=.agg #[.int .i64 1,.int .i64 4096,.int .i64 6,.string ⟨#[]⟩,.int .i64 4,.pointer (some ⟨g,0,none⟩)]
theorem abw:smG 4 4096 (⟨#[]⟩++⟨#[192,0]⟩) 0 0 []=([{pk0 with kind:=12}],⟨#[]⟩,2,1,0):=by decide+kernel
theorem abd:mqE 4 {pk0 with kind:=12}=0:=by decide+kernel
theorem aay(g:Nat)(w0 w:World)(hb:Bk w g SmT (smC 4 4096 none 0 0 0 0 0))(hw:Below w0.heap.size w0 w)(hg:w0.heap.size<=g):
  Calls prog 407 #[omV g,.string ⟨#[192,0]⟩] w fun e w'=>∃u,e= .returned (.tuple #[u,.int .i64 0])/\aaL w0 w' u/\Below w0.heap.size w0 w'/\∀q ty cs,q≠g->Bk w q ty cs->Bk w' q ty cs:=by
 have r:=aa hw;have HG:=aa hg
 have d:=aa ((aq w.heap.size w).alloc (ac _) (.cells #[.int .i64 1,.int .i64 4096,.int .i64 6,.string ⟨#[]⟩,.int .i64 4,.pointer (some ⟨g,0,none⟩)] 101));have f:=aa (Bk.fresh w 101 #[.int .i64 1,.int .i64 4096,.int .i64 6,.string ⟨#[]⟩,.int .i64 4,.pointer (some ⟨g,0,none⟩)]);have J:=aa (hb.alloc (.cells #[.int .i64 1,.int .i64 4096,.int .i64 6,.string ⟨#[]⟩,.int .i64 4,.pointer (some ⟨g,0,none⟩)] 101));have ao:=aa hb.lt;clear hb hw hg;unfold omV;go_enter func407,ntmps407;obtain⟨w1,H⟩:∃x,w.alloc (.cells #[.int .i64 1,.int .i64 4096,.int .i64 6,.string ⟨#[]⟩,.int .i64 4,.pointer (some ⟨g,0,none⟩)] 101)=x:=⟨_,rfl⟩;have p:=aa (d9 4 4096 g none 0 0 0 0 ⟨#[]⟩ ⟨#[192,0]⟩ w _ J.o (Kp.none w _) d.o.size (by decide) (by decide));rw[abw]at p;have L:=f.o.cell 5;have m:=f.o.cell 4;simp only[ay,aB,aE]at L m;rw[H]at d f J p L m
 go_upto_region 1 with fail
 clear H
 go_wp2_with fail
 refine p.o.mono ?_;rintro e w2 ⟨A2,m2,ap,L2,K2,n2,c2,rfl,F⟩;obtain rfl:m2=1:=F.len;obtain⟨o,e2⟩:=tg F.map;have K:=F.row.read;rw[e2]at K;obtain⟨b',o',p',h',rfl,Z,-,M,ip⟩:=K.at (i:=0) (by simp);simp only[aB,aX,bG]at Z;obtain⟨rfl,rfl⟩:=Z;have j:=aa (Zw (Yf r.o d.o) HG.o (aC r.o.size d.o.size) (Kp.none w w1) r.o.size F.mods);have C:=aa (fun(q:Nat) (ty:TypeId) (cs:Array Value) (s:q≠g) (hb:Bk w q ty cs)=>(Yh hb d.o).mods F.mods (fun x=>x.elim s (fun y=>by cases y)));have X:=aa (f.o.fed (by decide) (f.o.ne J.o (by decide)) (Kp.none w w1) F.mods);have V:=aa ip;obtain⟨a,b⟩:∃q,{pk0 with kind:=12}=q:=⟨_,rfl⟩;have HE:Hid (mqE 4 a=0):=aa (by rw[<-b];exact abd);have S:Hid (NoLists a):=aa (by rw[<-b];exact⟨rfl,rfl,rfl,rfl⟩);have B:Hid (a.kind=12):=aa (by rw[<-b]);have T:Hid (PkOk a):=aa (by rw[<-b];exact Fn (v:=4) (most:=4096) (t:=⟨#[192,0]⟩) (by decide));rw[b]at M V⊢;clear F K e2 ip b p m L;simp only[jU,jV]at M;have hl:=M _ (aq _ _);dsimp only;go_wp2
 go_loopw [8,22] (fun ov N wr=>OmL w0 w2 ov N wr) (fun _ N _=>1- (intOf N).toNat)
 case atStart=>exact .inl ⟨rfl,rfl,rfl⟩
 case round=>
  rcases hrel with ⟨rfl,rfl,ad⟩ | ⟨rfl,E,n⟩
  ·obtain⟨x,hx⟩:∃x,wr=x:=⟨_,rfl⟩;subst ad;subst hx;have W:=aa (X.o.alloc (.cells (pkC a o) PkT));have m:(wr.alloc (.cells (pkC a o) PkT)).cell? ⟨w.heap.size,4,none⟩=some (.int .i64 4):=W.o.cell 4;have G:a.kind≠3:=by rw[B.o];decide
   have CT:=aa (aaA a o S.o G HE.o T.o (wr.alloc (.cells (pkC a o) PkT)) (V.o.next ((aq wr.heap.size wr).alloc (ac _) _)));have I:=aa ((aq wr.heap.size wr).alloc (ac _) (.cells (pkC a o) PkT));clear G
   go_wp2_with fail
   refine CT.o.mono ?_;rintro e y ⟨k,rfl,hb⟩;have l:=aa (Yf I.o hb);clear hb CT I m W hl;have A:=aa (by simpa using Bk.fresh (y.alloc (.cells (evC 1 2 a k) EvT)) EvT (evC 1 2 a k):Bk ((y.alloc (.cells (evC 1 2 a k) EvT)).alloc (.cells (evC 1 2 a k) EvT)) (y.heap.size+1) EvT (evC 1 2 a k));have c:=aa ((l.o.alloc l.o.size (.cells (evC 1 2 a k) EvT)).alloc (by have:=l.o.size;simp;omega) (.cells (evC 1 2 a k) EvT))
   go_wp2_with (at_builtin;refine aab rfl (.tmp 37) (.tmp 39) rfl rfl rfl A.o ?_;intro Y z D h)
   have O:=aa (Yf c.o D);have U:((y.alloc (.cells (evC 1 2 a k) EvT)).alloc (.cells (evC 1 2 a k) EvT)).heap.size=y.heap.size+1+1:=by simp
   rw[U]at h;have Q:Hid (aaL w0 z (.slice (some ⟨y.heap.size+1+1,0,none⟩) 1 Y)):=aa ⟨_,Y,rfl,by have h1:=l.o.size;have h2:=j.o.size;omega,(h 1 (by decide)).trans (abp _ _ _ _),(h 12 (by decide)).trans (by rw[abo,B.o])⟩;clear D h A c l U
   go_roundw
   case rel=>exact .inr ⟨rfl,Q.o,O.o⟩
   case measure=>simp[intOf]
  ·have P:=aa E;have c:=aa (Yf j.o n);have R:=aa (fun(q:Nat) (ty:TypeId) (cs:Array Value) (s:q≠g) (hb:Bk w q ty cs)=>(C.o q ty cs s hb).below n (C.o q ty cs s hb).lt);clear E n;go_wp2;go_ret2;exact⟨_,rfl,P.o,c.o,R.o⟩
end
theorem aad(w:World):Calls prog 34 #[.agg #[.int .i64 4096,.int .i64 6]] w fun e w'=>e= .returned (.bool true)/\Below w.heap.size w w':=by
 have b:=aa ((aq w.heap.size w).alloc (ac _) (.cells #[.int .i64 4096,.int .i64 6] 23));have a:=aa (Bk.fresh w 23 #[.int .i64 4096,.int .i64 6]);have c:(w.alloc (.cells #[.int .i64 4096,.int .i64 6] 23)).cell? ⟨w.heap.size,0,none⟩=some (.int .i64 4096):=a.o.cell 0;have d:(w.alloc (.cells #[.int .i64 4096,.int .i64 6] 23)).cell? ⟨w.heap.size,1,none⟩=some (.int .i64 6):=a.o.cell 1;go_enter func34,ntmps34;go_wp2;go_ret;exact⟨rfl,b.o⟩
theorem aak(w:World):Calls prog 35 #[.int .i64 1] w fun e w'=>e= .returned (.tuple #[.int .i64 4,.bool true])/\w=w':=by
 go_enter func35,ntmps35;go_wp2;go_ret2;exact⟨rfl,rfl⟩
abbrev SsT:TypeId:=97
def ssC(g:Nat)(e told:Int):Array Value:=#[.int .i64 1,.int .i64 4096,.int .i64 6,.string ⟨#[]⟩,.iface 101 (omV g),.func (.method "polyglot/session.feed") #[.iface 101 (omV g)] #[],.int .i64 e,.int .i64 told]
theorem aaN(w:World):Calls prog 19 #[.agg #[.int .i64 1,.int .i64 4096,.int .i64 6,.string ⟨#[]⟩],.pointer none] w fun e w'=>∃gs g,e= .returned (.tuple #[.pointer (some ⟨gs,0,none⟩),.int .i64 0])/\Bk w' gs SsT (ssC g 0 0)/\Bk w' g SmT (smC 4 4096 none 0 0 0 0 0)/\gs≠g/\w.heap.size<=gs/\w.heap.size<=g/\Below w.heap.size w w':=by
 have s:=aa ((aq w.heap.size w).alloc (ac _) (.cells #[.int .i64 1,.int .i64 4096,.int .i64 6,.string ⟨#[]⟩] 59));have t:=aa (Bk.fresh w 59 #[.int .i64 1,.int .i64 4096,.int .i64 6,.string ⟨#[]⟩]);go_enter func19,ntmps19
 go_wp2_with fail
 refine Yg (aad _) fun f d=>?_;have k:=aa (Yf s.o d);have a:=aa (Yh t.o d)
 clear d;have m:=aa (k.o.alloc k.o.size (.cells #[.int .i64 1,.int .i64 4096,.int .i64 6,.string ⟨#[]⟩,.nilIface,.nilFunc,.int .i64 0,.int .i64 0] 97));have b:=aa (a.o.alloc (.cells #[.int .i64 1,.int .i64 4096,.int .i64 6,.string ⟨#[]⟩,.nilIface,.nilFunc,.int .i64 0,.int .i64 0] 97));have j:=aa (Bk.fresh f 97 #[.int .i64 1,.int .i64 4096,.int .i64 6,.string ⟨#[]⟩,.nilIface,.nilFunc,.int .i64 0,.int .i64 0]);have u:f.cell? ⟨w.heap.size,0,none⟩=some (.int .i64 1):=a.o.cell 0;have v:f.cell? ⟨w.heap.size,1,none⟩=some (.int .i64 4096):=a.o.cell 1;have y:f.cell? ⟨w.heap.size,2,none⟩=some (.int .i64 6):=a.o.cell 2;have z:f.cell? ⟨w.heap.size,3,none⟩=some (.string ⟨#[]⟩):=a.o.cell 3;have F:=b.o.cell 0;have G:=b.o.cell 1;have H:=b.o.cell 2;have I:=b.o.cell 3;simp only[ay,aB,aE]at F G H I;obtain⟨gs,r⟩:∃q,f.heap.size=q:=⟨_,rfl⟩;have n:Hid (w.heap.size<gs):=aa (by rw[<-r];exact a.o.lt);rw[r]at j
 go_wp2_with fail
 refine(aak _).mono ?_;rintro e x ⟨rfl,rfl⟩;clear u v y z s t k a;generalize f.alloc (.cells #[.int .i64 1,.int .i64 4096,.int .i64 6,.string ⟨#[]⟩,.nilIface,.nilFunc,.int .i64 0,.int .i64 0] 97)=x1 at*;clear r
 go_wp2_with fail
 refine(ZQ 4 4096 6 _).mono ?_;rintro e A ⟨d,h⟩;rw[if_pos (by decide)]at h;obtain⟨g,rfl,J,bk⟩:=h;have l:=aa (Yf m.o d);have i:=aa (Yh b.o d);have c:=aa (Yh j.o d)
 have K:=aa (aC m.o.size J);have B:=aa bk
 have o:Hid (gs≠g):=aa (by have:=j.o.lt;omega);clear d J bk F G H I;have u:=i.o.cell 0;have v:=i.o.cell 1;have y:=i.o.cell 2;have z:=i.o.cell 3;simp only[ay,aB,aE]at u v y z;have L:=c.o.cell 4;have M:=c.o.cell 5;simp only[ay,aB,aE]at L M;have N:=c.o.free 4;have O:=c.o.free 5;have E:=aa ((c.o.put 4 (.iface 101 (omV g))).put 5 (.func (.method "polyglot/session.feed") #[.iface 101 (omV g)] #[]));have C:=aa ((B.o.other (p:=⟨gs,4,none⟩) (show g≠gs from o.o.symm) (.iface 101 (omV g))).other (p:=⟨gs,5,none⟩) (show g≠gs from o.o.symm) (.func (.method "polyglot/session.feed") #[.iface 101 (omV g)] #[]));have D:=aa (dw (dw l.o (YR A gs 4 (.iface 101 (omV g))) l.o.size (pf n.o)) (YR (A.setCell ⟨gs,4,none⟩ (.iface 101 (omV g))) gs 5 (.func (.method "polyglot/session.feed") #[.iface 101 (omV g)] #[])) (aC l.o.size (YR A gs 4 (.iface 101 (omV g))).size) (pf n.o));go_wp2;go_ret2;exact⟨gs,g,rfl,E.o,C.o,o.o,pf n.o,K.o,D.o⟩
theorem aau(gs g:Nat)(w0 w:World)(hs:Bk w gs SsT (ssC g 0 0))(hb:Bk w g SmT (smC 4 4096 none 0 0 0 0 0))(hne:gs≠g)(hgs:w0.heap.size<=gs)(hg:w0.heap.size<=g)(hw:Below w0.heap.size w0 w):
  Calls prog 21 #[.pointer (some ⟨gs,0,none⟩),.string ⟨#[192,0]⟩] w fun e w'=>∃u,e= .returned (.tuple #[u,.int .i64 0])/\aaL w0 w' u/\Below w0.heap.size w0 w':=by
 have z:=aa hs;have D:=aa hw;have i:=aa hgs;have r:=aa hne
 have m:=aa (aay g w0 w hb hw hg);have C:w.cell? ⟨gs,5,none⟩=some (.func (.method "polyglot/session.feed") #[.iface 101 (omV g)] #[]):=hs.cell 5;have v:w.cell? ⟨gs,6,none⟩=some (.int .i64 0):=hs.cell 6;have A:∀x:World,(binOp BinOp.eql 62 (.func (.method "polyglot/session.feed") #[.iface 101 (omV g)] #[]) .nilFunc).run prog x= .ok (.bool false) x:=fun x=>by kernel_rfl
 have B:∀(k:Nat) (x:World),(method (k+1) 101 (omV g) "polyglot/session.feed").run prog x= .ok (407,omV g) x:=fun k x=>by kernel_rfl
 clear hs hb hne hgs hg hw;go_enter func21,ntmps21
 go_wp2_with fail
 refine m.o.mono ?_;rintro e d ⟨u,rfl,s,f,j⟩;obtain⟨q,c,rfl,t,h,l⟩:=s;have a:=aa (j gs _ _ r.o z.o);clear j m C v A B;have G:d.cell? ⟨gs,7,none⟩=some (.int .i64 0):=a.o.cell 7;have F:=a.o.free 7;have E:=a.o.free 6;have v:d.cell? ⟨gs,6,none⟩=some (.int .i64 0):=a.o.cell 6;have b:q≠gs:=by
  rintro rfl;rw[a.o.cell 1]at h;cases h
 have o:Hid (((d.setCell ⟨gs,7,none⟩ (.int .i64 1)).setCell ⟨gs,6,none⟩ (.int .i64 0)).cell? ⟨q,1,none⟩=some (.int .i64 2)):=aa (by
  rw[iG (jz _ ⟨gs,6,none⟩ _ q b),iG (jz _ ⟨gs,7,none⟩ _ q b)];exact h)
 have p:Hid (((d.setCell ⟨gs,7,none⟩ (.int .i64 1)).setCell ⟨gs,6,none⟩ (.int .i64 0)).cell? ⟨q,12,none⟩=some (.int .i64 12)):=aa (by
  rw[iG (jz _ ⟨gs,6,none⟩ _ q b),iG (jz _ ⟨gs,7,none⟩ _ q b)];exact l)
 have n:=aa (dw (dw f (YR d gs 7 (.int .i64 1)) f.size i.o) (YR (d.setCell ⟨gs,7,none⟩ (.int .i64 1)) gs 6 (.int .i64 0)) (aC f.size (YR d gs 7 (.int .i64 1)).size) i.o);have y:=aa t;clear h l f b t;go_wp2;go_ret2;exact⟨_,rfl,⟨q,c,rfl,y.o,o.o,p.o⟩,n.o⟩
theorem aaz(w:World):Calls prog 20 #[] w fun e w'=>e= .returned (.agg #[.int .i64 4096,.int .i64 6])/\Below w.heap.size w w':=by
 have b:=aa (Bk.fresh w 23 #[.int .i64 4096,.int .i64 6]);have a:=aa ((aq w.heap.size w).alloc (ac _) (.cells #[.int .i64 4096,.int .i64 6] 23));go_enter func20,ntmps20;go_wp2;refine av (uo rfl _ rfl b.o) rfl ?_;exact⟨rfl,a.o⟩
theorem aag(w:World):Calls prog 5 #[] w fun e w'=>e= .returned (.bool true)/\Below w.heap.size w w':=by
 go_enter func5,ntmps5
 go_wp2_with fail
 refine Yg (aaz _) fun r d=>?_;have b:=aa d;clear d
 go_wp2_with fail
 refine(aaN _).mono ?_;rintro e n ⟨m,g,rfl,l,d,h,f,k,a⟩;have i:=aa (aau m g w n l d h (aC b.o.size f) (aC b.o.size k) (Yf b.o a));clear l d h f k a
 go_wp2_with fail
 refine i.o.mono ?_;rintro e s ⟨u,rfl,⟨q,c,rfl,-,o,p⟩,a⟩;have j:=aa a;clear i a;go_wp2;go_ret;exact⟨rfl,j.o⟩
end Go.Proofs.YtemooicddjimbaaGreatDoor
