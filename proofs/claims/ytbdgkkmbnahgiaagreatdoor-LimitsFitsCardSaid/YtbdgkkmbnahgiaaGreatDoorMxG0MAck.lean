/- A part of what the laws stand on: MAck. -/
import Derived.Test.YtbdgkkmbnahgiaaGreatDoorMxG0MPk
import Derived.Test.YtbdgkkmbnahgiaaGreatDoorMxG0MReaA
import Derived.Laws.ResultCell
set_option maxRecDepth 10000
set_option maxHeartbeats 8000000
namespace Go.Proofs.YtbdgkkmbnahgiaaGreatDoor
open Go.RowKit Go.Proofs.Tryz
section
attribute [local go_sem ↓] bD bF bH bI bu
attribute [local go_sem] bc aD bh bg bK bJ bd aY be aO ax cI dC dB dt dj di dA dr dp dn bW co bO bZ bX cz cy cw cu ct cC cn bS bP bR
def pe(v k:Int):Bool:=decide ((v=4\/v=5)/\4<=k/\k<=7)
theorem nz(v k:Int)(w:World):Calls prog 270 #[.int .i64 v,.int .i64 k] w fun e w'=>e= .returned (.bool (pe v k))/\w=w':=by
 go_enter func270,ntmps270;go_wp2
 all_goals
  go_ret;refine⟨eT ?_,rfl⟩;unfold pe
  simp_all<;>omega
def qS(p:Pk):Pk:={pk0 with kind:=p.kind,id:=p.id,code:=p.code,props:=p.props}
def vU(h:Hs):Hs:={hs0 with props:=h.props}
def eS(v:Int)(p:Pk):Int:=
 if pe v p.kind=false\/p.id<=0\/65536<=p.id\/may p.kind p.code=false then 2
 else if v=4/\(p.code≠0\/p.props.length≠0)then 2
 else if p≠qS p then 2
 else(aM p.kind p.props).2
theorem Fh{w:World}{B:Nat}{p:Pk}{h:Hs}(x:PkIn w B p h):PkIn w B (qS p) (vU h):=⟨Rd.nil _ _ _ _,Rd.nil _ _ _ _,Rd.nil _ _ _ _,x.props,ag _,ag _,ag _,x.caps.2.2.2⟩
theorem PkOk.len{p:Pk}(x:PkOk p):gz p:=by
 obtain⟨h1,h2,h3,h4⟩:=x.lens;exact⟨by omega,by omega,by omega,by omega⟩
theorem Dy{p:Pk}(x:gz p):gz (qS p):=⟨ag _,ag _,ag _,x.2.2.2⟩
theorem fb(v:Int)(p:Pk)(h:Hs)(w:World)(ip:PkIn w w.heap.size p h)(ok:PkOk p):
  Calls prog 269 #[.int .i64 v,pkV p h] w fun e w'=>e= .returned (.int .i64 (eS v p))/\Below w.heap.size w w':=by
 have IP:=aa ip;have OK:=aa ok;clear ip ok
 have HB:=aa ((aq w.heap.size w).alloc (ac _) (.cells (pkC p h) PkT));have HK:=aa (Bk.fresh w PkT (pkC p h));have HE:Hid (eS v p=if pe v p.kind=false\/p.id<=0\/65536<=p.id\/may p.kind p.code=false then 2 else if v=4/\(p.code≠0\/p.props.length≠0)then 2 else if p≠qS p then 2 else(aM p.kind p.props).2):=aa rfl;go_enter func269,ntmps269
 go_wp2_with fail
 refine(nz v p.kind _).mono ?_;rintro e w1 ⟨rfl,rfl⟩;cases hk:pe v p.kind
 ·have HX:Hid (eS v p=2):=aa (by rw[HE.o,if_pos (.inl hk)]);go_wp2;go_ret;exact⟨by rw[HX.o];rfl,HB.o⟩
 ·by_cases h1:p.id<=0
  ·have HX:Hid (eS v p=2):=aa (by rw[HE.o,if_pos (.inr (.inl h1))]);go_wp2;go_ret;exact⟨by rw[HX.o];rfl,HB.o⟩
  ·have d1:decide (p.id<=0)=false:=ah h1;have d1':0<p.id:=by omega
   by_cases h2:65536<=p.id
   ·have HX:Hid (eS v p=2):=aa (by rw[HE.o,if_pos (.inr (.inr (.inl h2)))]);clear h1;go_wp2;go_ret;exact⟨by rw[HX.o];rfl,HB.o⟩
   ·have d2:decide (65536<=p.id)=false:=ah h2;have d2':p.id<65536:=by omega
    have H12:=aa (And.intro h1 h2);clear h1 h2
    go_wp2_with fail
    refine(m7 p.kind p.code _).mono ?_;rintro e w1 ⟨rfl,hb⟩;have HB1:=aa (HB.o.trans (hb.mono HB.o.size));have HK1:=aa (HK.o.below hb HK.o.lt)
    clear hb;have k1:=fun i=>HK1.o.cell i;cases hm:may p.kind p.code
    ·have HX:Hid (eS v p=2):=aa (by rw[HE.o,if_pos (.inr (.inr (.inr hm)))]);clear hm;go_wp2;go_ret;exact⟨by rw[HX.o];rfl,HB1.o⟩
    ·have HE2:Hid (eS v p=if v=4/\(p.code≠0\/p.props.length≠0)then 2 else if p≠qS p then 2 else(aM p.kind p.props).2):=aa (by
      rw[HE.o,ae];rintro (x| x| x| x)
      ·rw[hk]at x;cases x
      ·have:=H12.o.1;omega
      ·have:=H12.o.2;omega
      ·rw[hm]at x;cases x)
     clear hm hk HE
     by_cases h4:v=4/\(p.code≠0\/p.props.length≠0)
     ·have HX:Hid (eS v p=2):=aa (by rw[HE2.o,if_pos h4]);obtain⟨rfl,h5⟩:=h4
      by_cases hc:p.code=0
      ·have e1:(p.code !=0)=false:=by simpa using hc
       have e2:((p.props.length:Int) !=0)=true:=aA.2 (by omega);clear hc h5;go_wp2;go_ret;exact⟨by rw[HX.o];rfl,HB1.o⟩
      ·have e1:(p.code !=0)=true:=aA.2 hc;clear hc h5;go_wp2;go_ret;exact⟨by rw[HX.o];rfl,HB1.o⟩
     ·have HE3:Hid (eS v p=if p≠qS p then 2 else(aM p.kind p.props).2):=aa (by rw[HE2.o,ae h4]);have HL:=aa (cf HK1.o)
      by_cases hv:v=4
      ·have hc:p.code=0:=by
        rcases Decidable.em (p.code=0)with x| x
        ·exact x
        ·exact absurd ⟨hv,.inl x⟩ h4
       have hn:p.props.length=0:=by
        rcases Decidable.em (p.props.length=0)with x| x
        ·exact x
        ·exact absurd ⟨hv,.inr x⟩ h4
       have e0:(v==4)=true:=aK.2 hv;have e1:(p.code !=0)=false:=by simpa using hc
       have e2:((p.props.length:Int) !=0)=false:=by simpa using (show(p.props.length:Int)=0 by omega)
       have hl:=HL.o;clear h4 hv hc hn HE2
       go_wp2_with fail
       refine(jE p (qS p) h (vU h) _ ((IP.o.below HB1.o).wider HB1.o.size) (Fh ((IP.o.below HB1.o).wider HB1.o.size)) OK.o.len (Dy OK.o.len)).mono ?_;rintro e w2 ⟨rfl,hb⟩;have HB2:=aa (HB1.o.trans (hb.mono HB1.o.size));have HK2:=aa (HK1.o.below hb HK1.o.lt)
       clear hb k1 hl;have k2:=fun i=>HK2.o.cell i
       by_cases hs:p=qS p
       ·rw[au hs];have HX:Hid (eS v p=(aM p.kind p.props).2):=aa (by rw[HE3.o,ae (fun x=>x hs)]);clear hs
        go_wp2_with fail
        refine(gu p.kind p.props _ rfl OK.o.props h.props.a h.props.c _ ((IP.o.below HB2.o).wider HB2.o.size).props OK.o.len.2.2.2).mono ?_;rintro e w3 ⟨rfl,hb⟩;have HB3:=aa (HB2.o.trans (hb.mono HB2.o.size));clear hb k2;go_wp2;go_ret;exact⟨by rw[HX.o];rfl,HB3.o⟩
       ·rw[ah hs];have HX:Hid (eS v p=2):=aa (by rw[HE3.o,if_pos hs]);clear hs;go_wp2;go_ret;exact⟨by rw[HX.o];rfl,HB2.o⟩
      ·have e0:(v==4)=false:=ar.2 hv;have hl:=HL.o;clear h4 hv HE2
       go_wp2_with fail
       refine(jE p (qS p) h (vU h) _ ((IP.o.below HB1.o).wider HB1.o.size) (Fh ((IP.o.below HB1.o).wider HB1.o.size)) OK.o.len (Dy OK.o.len)).mono ?_;rintro e w2 ⟨rfl,hb⟩;have HB2:=aa (HB1.o.trans (hb.mono HB1.o.size));have HK2:=aa (HK1.o.below hb HK1.o.lt)
       clear hb k1 hl;have k2:=fun i=>HK2.o.cell i
       by_cases hs:p=qS p
       ·rw[au hs];have HX:Hid (eS v p=(aM p.kind p.props).2):=aa (by rw[HE3.o,ae (fun x=>x hs)]);clear hs
        go_wp2_with fail
        refine(gu p.kind p.props _ rfl OK.o.props h.props.a h.props.c _ ((IP.o.below HB2.o).wider HB2.o.size).props OK.o.len.2.2.2).mono ?_;rintro e w3 ⟨rfl,hb⟩;have HB3:=aa (HB2.o.trans (hb.mono HB2.o.size));clear hb k2;go_wp2;go_ret;exact⟨by rw[HX.o];rfl,HB3.o⟩
       ·rw[ah hs];have HX:Hid (eS v p=2):=aa (by rw[HE3.o,if_pos hs]);clear hs;go_wp2;go_ret;exact⟨by rw[HX.o];rfl,HB2.o⟩
structure AckGood (v:Int) (p:Pk):Prop where
 k:pe v p.kind=true
 id1:0<p.id
 id2:p.id<65536
 may:may p.kind p.code=true
 c1:0<=p.code
 c2:p.code<256
 old:v=4->p.code=0/\p.props=[]
 same:p=qS p
 bytes:(aM p.kind p.props).2=0
theorem AJ{v:Int}{p:Pk}(x:eS v p=0):AckGood v p:=by
 unfold eS at x;split at x
 ·cases x
 ·next h=>
  split at x
  ·cases x
  ·next h4=>
   split at x
   ·cases x
   ·next hs=>
    have hm:Go.Proofs.YtbdgkkmbnahgiaaGreatDoor.may p.kind p.code=true:=by
     cases e:Go.Proofs.YtbdgkkmbnahgiaaGreatDoor.may p.kind p.code
     ·exact absurd (.inr (.inr (.inr e))) h
     ·rfl
    have hr:=n6 hm;refine⟨?_,?_,?_,hm,hr.1,hr.2,?_,aU.1 hs,x⟩
    ·cases e:pe v p.kind
     ·exact absurd (.inl e) h
     ·rfl
    ·exact Int.not_le.1 fun e=>h (.inr (.inl e))
    ·exact Int.not_le.1 fun e=>h (.inr (.inr (.inl e)))
    ·intro hv;refine⟨aU.1 fun e=>h4 ⟨hv,.inl e⟩,?_⟩;have:=aU.1 fun e=>h4 ⟨hv,.inr e⟩;exact aF this
theorem AckGood.ok{v:Int}{p:Pk}(x:AckGood v p):eS v p=0:=by
 unfold eS;rw[ae,ae,ae]
 ·exact x.bytes
 ·exact fun h=>h x.same
 ·rintro ⟨h1,h2⟩;have:=x.old h1;rcases h2 with h2| h2
  ·exact h2 this.1
  ·rw[this.2]at h2;exact h2 rfl
 ·rintro (h| h| h| h)
  ·rw[x.k]at h;cases h
  ·have:=x.id1;omega
  ·have:=x.id2;omega
  ·rw[x.may]at h;cases h
def Fa(p:Pk):List UInt8:=if p.code=0/\p.props.length=0 then []else da p.code.toNat 1++(if p.props.length=0 then []else(aM p.kind p.props).1)
def Ga(v:Int)(p:Pk):List UInt8×Int:=if eS v p=0 then(da p.id.toNat 2++Fa p,0)else([],eS v p)
theorem ap2(a b:List UInt8):(⟨a.toArray⟩:ByteArray)++⟨b.toArray⟩=⟨(a++b).toArray⟩:=by
 apply ByteArray.ext;simp
theorem ap3(a b:List UInt8)(c:List UInt8):(⟨(a++b).toArray⟩:ByteArray)++⟨c.toArray⟩=⟨(a++(b++c)).toArray⟩:=by
 rw[ap2,List.append_assoc]
theorem Vn(v:Int)(p:Pk)(h:Hs)(w:World)(ip:PkIn w w.heap.size p h)(ok:PkOk p):
  Calls prog 195 #[.int .i64 v,pkV p h] w fun e w'=>e= .returned (.tuple #[.string ⟨(Ga v p).1.toArray⟩,.int .i64 (Ga v p).2])/\Below w.heap.size w w':=by
 have IP:=aa ip;have OK:=aa ok;clear ip ok
 have HB:=aa ((aq w.heap.size w).alloc (ac _) (.cells (pkC p h) PkT));have HK:=aa (Bk.fresh w PkT (pkC p h));have HE:Hid (Ga v p=if eS v p=0 then(da p.id.toNat 2++Fa p,0)else([],eS v p)):=aa rfl;go_enter func195,ntmps195
 go_wp2_with fail
 refine(fb v p h _ ((IP.o.below HB.o).wider HB.o.size) OK.o).mono ?_;rintro e w1 ⟨rfl,hb⟩;have HB1:=aa (HB.o.trans (hb.mono HB.o.size));have HK1:=aa (HK.o.below hb HK.o.lt)
 clear hb;have k1:=fun i=>HK1.o.cell i
 by_cases he:eS v p=0
 ·have HG:=aa (AJ he);obtain⟨n,hn,hw1⟩:∃n:Nat,Hid (p.id.toNat=n)/\IntKind.u64.wrap p.id=(n:Int):=⟨_,aa rfl,by rw[iZ];have:=HG.o.id1;have:=HG.o.id2;omega⟩;obtain⟨m,hm,hw2⟩:∃m:Nat,Hid (p.code.toNat=m)/\IntKind.u64.wrap p.code=(m:Int):=⟨_,aa rfl,by rw[iZ];have:=HG.o.c1;have:=HG.o.c2;omega⟩;have e0:(eS v p !=0)=false:=by simpa using he
  have HX:Hid (Ga v p=(da n 2++Fa p,0)):=aa (by rw[HE.o,if_pos he,hn.out]);clear he
  go_wp2_with fail
  refine(pD n 2 _ (by have:=hn.out;have:=HG.o.id2;have:=HG.o.id1;omega) (by omega) (by omega)).mono ?_;rintro e w2 ⟨rfl,hb⟩;have HB2:=aa (HB1.o.trans (hb.mono HB1.o.size));have HK2:=aa (HK1.o.below hb HK1.o.lt)
  clear hb k1 e0 hw1;have k2:=fun i=>HK2.o.cell i
  by_cases hz:p.code=0/\p.props.length=0
  ·have HT:Hid (Fa p=[]):=aa (by rw[Fa,if_pos hz]);have e1:(p.code !=0)=false:=by simpa using hz.1
   have e2:((p.props.length:Int) !=0)=false:=by simpa using (show(p.props.length:Int)=0 by omega)
   clear hz;go_wp2;go_ret2;exact⟨by(rw[HX.o,HT.o,cW];first| done| rfl),HB2.o⟩
  ·by_cases hp:p.props.length=0
   ·have HT:Hid (Fa p=da m 1):=aa (by rw[<-hm.out,Fa,ae hz,if_pos hp,cW]);have e1:(p.code !=0)=true:=aA.2 fun x=>hz ⟨x,hp⟩;have e2:((p.props.length:Int) !=0)=false:=by simpa using (show(p.props.length:Int)=0 by omega)
    clear hz hp
    go_wp2_with fail
    refine(pD m 1 _ (by have:=hm.out;have:=HG.o.c1;have:=HG.o.c2;omega) (by omega) (by omega)).mono ?_;rintro e w3 ⟨rfl,hb⟩;have HB3:=aa (HB2.o.trans (hb.mono HB2.o.size));have HK3:=aa (HK2.o.below hb HK2.o.lt)
    clear hb k2;have k3:=fun i=>HK3.o.cell i;have hs1:¬(9223372036854775807<(da n 2).length+(da m 1).length):=by rw[fM,fM];decide
    go_wp2;go_ret2;exact⟨by(rw[HX.o,HT.o,<-ap2];first| done| rfl),HB3.o⟩
   ·have HT:Hid (Fa p=da m 1++(aM p.kind p.props).1):=aa (by rw[<-hm.out,Fa,ae hz,ae hp]);have e2:((p.props.length:Int) !=0)=true:=aA.2 (by omega);have e1:(p.code !=0)=true\/(p.code !=0)=false:=by cases (p.code !=0)<;>simp
    clear hz hp;rcases e1 with e1| e1
    all_goals
     go_wp2_with fail
     refine(pD m 1 _ (by have:=hm.out;have:=HG.o.c1;have:=HG.o.c2;omega) (by omega) (by omega)).mono ?_;rintro e w3 ⟨rfl,hb⟩;have HB3:=aa (HB2.o.trans (hb.mono HB2.o.size));have HK3:=aa (HK2.o.below hb HK2.o.lt)
     clear hb;have k3:=fun i=>HK3.o.cell i;have hs1:¬(9223372036854775807<(da n 2).length+(da m 1).length):=by rw[fM,fM];decide
     have hs2:¬(9223372036854775807<(da n 2).length+(da m 1).length+(aM p.kind p.props).fst.length):=by rw[fM,fM];have:=(G6 p.kind p.props HG.o.bytes).2;omega
     go_wp2_with fail
     refine(UB p.kind p.props _ rfl OK.o.props h.props.a h.props.c _ ((IP.o.below HB3.o).wider HB3.o.size).props OK.o.len.2.2.2).mono ?_;rintro e w4 ⟨rfl,hb⟩;have HB4:=aa (HB3.o.trans (hb.mono HB3.o.size));clear hb;go_wp2;go_ret2;exact⟨by(rw[HX.o,HT.o,<-ap3,<-ap2];first| done| rfl),HB4.o⟩
 ·have e0:(eS v p !=0)=true:=aA.2 he;have HX:Hid (Ga v p=([],eS v p)):=aa (by rw[HE.o,ae he]);clear he;go_wp2;go_ret2;exact⟨by rw[HX.o];rfl,HB1.o⟩
def Gu(k i c:Int):Pk:={pk0 with kind:=k,id:=i,code:=c}
theorem PkIn.zero(w:World)(B:Nat)(k i c:Int):PkIn w B (Gu k i c) hs0:=⟨Rd.nil _ _ _ _,Rd.nil _ _ _ _,Rd.nil _ _ _ _,Rd.nil _ _ _ _,ag _,ag _,ag _,ag _⟩
theorem PkOk.zero(k i c:Int):PkOk (Gu k i c):=by
 refine⟨?_,?_,?_,?_,?_⟩
 ·intro q hq;cases hq
 ·intro q hq;cases hq
 ·intro q hq;cases hq
 ·exact⟨ag _,ag _,ag _,ag _,ag _,ag _,ag _⟩
 ·exact⟨ag _,ag _,ag _,ag _⟩
theorem vL(k:Int):aM k []=([0],0):=by
 show eO k [] (fun _=>0) []=_;rfl
theorem D8(i:Int)(h:0<=i)(h2:i<256):∃a:UInt8,da i.toNat 1=[a]/\(a.toNat:Int)=i:=by
 refine⟨UInt8.ofNat (i.toNat/ 2^ 0),rfl,?_⟩;have e2:(UInt8.ofNat (i.toNat/ 2^ 0)).toNat=i.toNat% 256:=by simp
 rw[e2];omega
theorem Cn{w:World}{g:Nat}{p:Pk}{h:Hs}(hb:Bk w g PkT (pkC p h)):(loadVar PkT ⟨g,0,none⟩).run prog w= .ok (pkV p h) w:=by
 have hl:=cf hb;unfold kZ at hl;generalize pkV p h=V at hl⊢
 simpa only[Instr.loadAt,Instr.sureAddr,Sem.run_bind,Sem.run_pure,ik]using hl
theorem kG{A B:Type}(r:Result A)(v:A)(w:World)(f:A->World->Result B)(h:r= .ok v w):r.andThen f=f v w:=by rw[h];rfl
theorem aI{fn:Func}{p u:Tmp}(hr:fn.results= #[.cell p PkT,.tmp u])(tmps:Array Value){w:World}{g:Nat}{q:Pk}{h:Hs}(hp:tmps.getD p undef= .pointer (some ⟨g,0,none⟩))(hb:Bk w g PkT (pkC q h)):
  (results fn tmps).run prog w= .ok (.tuple #[pkV q h,tmps.getD u undef]) w:=by
 rw[results_cell_tmp hr,hp];have hl:=Cn hb;generalize pkV q h=V at hl⊢;exact kG _ (⟨g,0,none⟩:Addr) w _ rfl |>.trans (kG _ V w _ hl)
theorem bT{B g:Nat}{w w':World}(x:Below B w w')(hB:B<=w'.heap.size)(hg:B<=g)(q:Pk)(k:Hs):Below B w (dE w' g q k):=x.grown (cJ w' g q k) hB (fun y hy=>by cases hy;exact hg)
theorem vj(x y:Wl)(hx hy:Hd)(w:World)(rx:Rd w w.heap.size 4 hx.a x.props.length (prs x.props))(ry:Rd w w.heap.size 4 hy.a y.props.length (prs y.props))(lx:x.props.length<=4611686018427387904)(ly:y.props.length<=4611686018427387904):
  Calls prog 68 #[wlV x hx,wlV y hy] w fun e w'=>e= .returned (.bool (decide (x=y)))/\Below w.heap.size w w':=by
 obtain⟨t,l,q,r,ps⟩:=x;obtain⟨t',l',q',r',ps'⟩:=y;simp only at rx ry lx ly;simp only[wlV,wlC];have RX:=aa rx;have RY:=aa ry;clear rx ry
 go_enter func68,ntmps68
 go_wp2_with (first| (refine(oJ _ _ _ _ _ _ ps ps' _ rfl rfl (RX.o.two _ _) (RY.o.two _ _) lx ly).mono ?_;rintro e w2 ⟨rfl,hb2⟩))
 all_goals
  go_ret;refine⟨eT (by simp_all[nC,toList_inj]),?_⟩
  first| exact lN hb2| exact ic _ _ _
theorem ws(p q:Pk)(h k:Hs)(w:World)(ip:PkIn w w.heap.size p h)(iq:PkIn w w.heap.size q k)(lp:gz p)(lq:gz q):
  Calls prog 14 #[pkV p h,pkV q k] w fun e w'=>e= .returned (.bool (decide (p=q)))/\Below w.heap.size w w':=by
 have hb2:=ic w (.cells (pkC p h) PkT) (.cells (pkC q k) PkT);have B1:Bk ((w.alloc (.cells (pkC p h) PkT)).alloc (.cells (pkC q k) PkT)) w.heap.size PkT (pkC p h):=(Bk.fresh w PkT (pkC p h)).alloc _;have B2:Bk ((w.alloc (.cells (pkC p h) PkT)).alloc (.cells (pkC q k) PkT)) (w.heap.size+1) PkT (pkC q k):=by
  simpa using Bk.fresh (w.alloc (.cells (pkC p h) PkT)) PkT (pkC q k)
 have HP:=aa (And.intro ip (And.intro iq (And.intro lp lq)));have HB:=aa hb2;have H1:=aa B1;have H2:=aa B2
 have HQ:=aa (nQ p q);clear ip iq lp lq hb2;have k1:=fun i=>B1.cell i;have k2:=fun i=>B2.cell i;have c0:=vj p.will q.will h.wp k.wp _ (HP.o.1.next HB.o).wp (HP.o.2.1.next HB.o).wp HP.o.2.2.1.1 HP.o.2.2.2.1;simp only[wlV,wlC]at c0;clear B1 B2;have C0:=aa c0;clear c0
 go_enter func14,ntmps14
 go_wp2_with fail
 refine(C0.o).mono ?_;rintro e w1 ⟨rfl,hb⟩;have HB1:=aa (HB.o.trans (hb.mono HB.o.size));have H11:=aa (H1.o.below hb H1.o.lt);have H21:=aa (H2.o.below hb H2.o.lt)
 clear hb k1 k2;have k1:=fun i=>H11.o.cell i;have k2:=fun i=>H21.o.cell i
 by_cases d0:p.will=q.will
 rotate_left
 ·have HF:Hid (decide (p=q)=false):=aa (ah (fun x=>d0 (by rw[x])));rw[ah d0];clear d0;go_wp2;go_ret;exact⟨by(rw[HF.o];first| done| rfl),HB1.o⟩
 rw[au d0];have D0:=aa d0;clear d0
 go_wp2_with fail
 refine(zj h.codes.a k.codes.a p.codes.length q.codes.length h.codes.c k.codes.c p.codes q.codes _ (HP.o.1.next HB1.o).codes (HP.o.2.1.next HB1.o).codes (aC HP.o.2.2.1.2.1 (by decide)) (aC HP.o.2.2.2.2.1 (by decide))).mono ?_;rintro e w2 ⟨rfl,hb⟩;have HB2:=aa (HB1.o.trans (hb.mono HB1.o.size));have H12:=aa (H11.o.below hb H11.o.lt);have H22:=aa (H21.o.below hb H21.o.lt)
 clear hb k1 k2;have k1:=fun i=>H12.o.cell i;have k2:=fun i=>H22.o.cell i
 by_cases d1:p.codes=q.codes
 rotate_left
 ·have HF:Hid (decide (p=q)=false):=aa (ah (fun x=>d1 (by rw[x])));rw[ah d1];clear d1;go_wp2;go_ret;exact⟨by(rw[HF.o];first| done| rfl),HB2.o⟩
 rw[au d1];have D1:=aa d1;clear d1
 go_wp2_with fail
 refine(zk h.filters.a k.filters.a p.filters.length q.filters.length h.filters.c k.filters.c p.filters q.filters _ rfl rfl (HP.o.1.next HB2.o).filters (HP.o.2.1.next HB2.o).filters HP.o.2.2.1.2.2.1 HP.o.2.2.2.2.2.1).mono ?_;rintro e w3 ⟨rfl,hb⟩;have HB3:=aa (HB2.o.trans (hb.mono HB2.o.size));have H13:=aa (H12.o.below hb H12.o.lt);have H23:=aa (H22.o.below hb H22.o.lt)
 clear hb k1 k2;have k1:=fun i=>H13.o.cell i;have k2:=fun i=>H23.o.cell i
 by_cases d2:p.filters=q.filters
 rotate_left
 ·have HF:Hid (decide (p=q)=false):=aa (ah (fun x=>d2 (by rw[x])));rw[ah d2];clear d2;go_wp2;go_ret;exact⟨by(rw[HF.o];first| done| rfl),HB3.o⟩
 rw[au d2];have D2:=aa d2;clear d2
 go_wp2_with fail
 refine(oJ h.props.a k.props.a p.props.length q.props.length h.props.c k.props.c p.props q.props _ rfl rfl (HP.o.1.next HB3.o).props (HP.o.2.1.next HB3.o).props HP.o.2.2.1.2.2.2 HP.o.2.2.2.2.2.2).mono ?_;rintro e w4 ⟨rfl,hb⟩;have HB4:=aa (HB3.o.trans (hb.mono HB3.o.size));have H14:=aa (H13.o.below hb H13.o.lt);have H24:=aa (H23.o.below hb H23.o.lt)
 clear hb k1 k2;have k1:=fun i=>H14.o.cell i;have k2:=fun i=>H24.o.cell i
 by_cases d3:p.props=q.props
 rotate_left
 ·have HF:Hid (decide (p=q)=false):=aa (ah (fun x=>d3 (by rw[x])));rw[ah d3];clear d3;go_wp2;go_ret;exact⟨by(rw[HF.o];first| done| rfl),HB4.o⟩
 rw[au d3];have D3:=aa d3;clear d3
 go_wp2
 all_goals
  go_ret;refine⟨eT ?_,HB4.o⟩;have D0:=D0.o;have D1:=D1.o;have D2:=D2.o;have D3:=D3.o;have HQ:=HQ.o
  clear HB HB1 HB2 HB3 HB4 k1 k2
  by_cases hpq:p=q
  ·subst hpq
   simp_all
  ·rw[ah hpq]
   first| done| (rw[HQ]at hpq;clear HQ;simp_all[toList_inj])
theorem wM(w:World)(B:Nat):PkIn w B pk0 hs0:=⟨Rd.nil _ _ _ _,Rd.nil _ _ _ _,Rd.nil _ _ _ _,Rd.nil _ _ _ _,ag _,ag _,ag _,ag _⟩
def ft(l:List Fi):Nat:=(l.map fun f=>f.topic.size).sum
theorem PJ(l:List Fi)(k:Nat)(h:k<l.length):ft (l.take (k+1))=ft (l.take k)+l[k].topic.size:=by
 unfold ft;rw[fE h,Ii,List.sum_append];simp only[fI,gC,SK,Ur];omega
theorem PU:∀(l:List Fi),(∀f∈l,f.topic.size<=140737488351232)->ft l<=l.length*140737488351232
 | [],_=>by simp[ft]
 | p :: l,h=>by
   have h1:=PU l (fun q hq=>h q (kV _ hq));have h2:=h p (by simp);simp[ft]at h1⊢;omega
def szK(p:Pk):Nat:=p.topic.size+p.payload.size+p.client.size+p.user.size+p.pass.size+p.will.topic.size+p.will.payload.size
def Ie(p:Pk):Bool:=Ig p.props&&(Ig p.will.props&&(decide (p.codes.length<=60)&&(decide (p.filters.length<=60)&&decide (szK p+ft p.filters<=140000))))
theorem Mw(p:Pk)(h:Hs)(w:World)(ip:PkIn w w.heap.size p h)(ok:PkOk p):
  Calls prog 19 #[pkV p h] w fun e w'=>e= .returned (.bool (Ie p))/\Below w.heap.size w w':=by
 have IP:=aa ip;have OK:=aa ok;clear ip ok
 have HB:=aa ((aq w.heap.size w).alloc (ac _) (.cells (pkC p h) PkT));have HK:=aa (Bk.fresh w PkT (pkC p h));have HE:Hid (Ie p=(Ig p.props&&(Ig p.will.props&&(decide (p.codes.length<=60)&&(decide (p.filters.length<=60)&&decide (szK p+ft p.filters<=140000)))))):=aa rfl;go_enter func19,ntmps19
 go_wp2_with fail
 refine(Kq p.props h.props.a h.props.c _ ((IP.o.below HB.o).wider HB.o.size).props OK.o.len.2.2.2 (Jm OK.o.props)).mono ?_;rintro e w1 ⟨rfl,hb⟩;have HB1:=aa (HB.o.trans (hb.mono HB.o.size));have HK1:=aa (HK.o.below hb HK.o.lt)
 clear hb;have k1:=fun i=>HK1.o.cell i;cases h1:Ig p.props
 ·have HX:Hid (Ie p=false):=aa (by rw[HE.o,h1];rfl);clear h1;go_wp2;go_ret;exact⟨by(rw[HX.o];first| done| rfl),HB1.o⟩
 have HE1:=aa (HE.o.trans (by rw[h1,aL]));clear h1
 go_wp2_with fail
 refine(Kq p.will.props h.wp.a h.wp.c _ ((IP.o.below HB1.o).wider HB1.o.size).wp OK.o.len.1 (Jm OK.o.wp)).mono ?_;rintro e w2 ⟨rfl,hb⟩;have HB2:=aa (HB1.o.trans (hb.mono HB1.o.size));have HK2:=aa (HK1.o.below hb HK1.o.lt)
 clear hb k1;have k2:=fun i=>HK2.o.cell i;cases h2:Ig p.will.props
 ·have HX:Hid (Ie p=false):=aa (by rw[HE1.o,h2];rfl);clear h2;go_wp2;go_ret;exact⟨by(rw[HX.o];first| done| rfl),HB2.o⟩
 have HE2:=aa (HE1.o.trans (by rw[h2,aL]));clear h2
 by_cases h3:p.codes.length<=60
 rotate_left
 ·have HX:Hid (Ie p=false):=aa (by rw[HE2.o,ah h3];rfl);have d3:(60:Int)<(p.codes.length:Int):=by omega
  clear h3;go_wp2;go_ret;exact⟨by(rw[HX.o];first| done| rfl),HB2.o⟩
 have d3:(p.codes.length:Int)<=60:=by omega
 have HE3:=aa (HE2.o.trans (by rw[au h3,aL]));clear h3
 by_cases h4:p.filters.length<=60
 rotate_left
 ·have HX:Hid (Ie p=false):=aa (by rw[HE3.o,ah h4];rfl);have d4:(60:Int)<(p.filters.length:Int):=by omega
  clear h4;go_wp2;go_ret;exact⟨by(rw[HX.o];first| done| rfl),HB2.o⟩
 have d4:(p.filters.length:Int)<=60:=by omega
 have HE4:=aa (HE3.o.trans (by rw[au h4,aL]));have H4:=aa h4;clear h4;obtain⟨x1,x2,x3,x4,x5,x6,x7⟩:=OK.o.texts;have s1:IntKind.i64.wrap ((p.topic.size:Int)+(p.payload.size:Int))=(p.topic.size:Int)+(p.payload.size:Int):=by rw[aQ];omega
 have s2:IntKind.i64.wrap ((p.topic.size:Int)+(p.payload.size:Int)+(p.client.size:Int))=(p.topic.size:Int)+(p.payload.size:Int)+(p.client.size:Int):=by rw[aQ];omega
 have s3:IntKind.i64.wrap ((p.topic.size:Int)+(p.payload.size:Int)+(p.client.size:Int)+(p.user.size:Int))=(p.topic.size:Int)+(p.payload.size:Int)+(p.client.size:Int)+(p.user.size:Int):=by rw[aQ];omega
 have s4:IntKind.i64.wrap ((p.topic.size:Int)+(p.payload.size:Int)+(p.client.size:Int)+(p.user.size:Int)+(p.pass.size:Int))=(p.topic.size:Int)+(p.payload.size:Int)+(p.client.size:Int)+(p.user.size:Int)+(p.pass.size:Int):=by rw[aQ];omega
 have s5:IntKind.i64.wrap ((p.topic.size:Int)+(p.payload.size:Int)+(p.client.size:Int)+(p.user.size:Int)+(p.pass.size:Int)+(p.will.topic.size:Int))=(p.topic.size:Int)+(p.payload.size:Int)+(p.client.size:Int)+(p.user.size:Int)+(p.pass.size:Int)+(p.will.topic.size:Int):=by rw[aQ];omega
 have s6:IntKind.i64.wrap ((p.topic.size:Int)+(p.payload.size:Int)+(p.client.size:Int)+(p.user.size:Int)+(p.pass.size:Int)+(p.will.topic.size:Int)+(p.will.payload.size:Int))=(p.topic.size:Int)+(p.payload.size:Int)+(p.client.size:Int)+(p.user.size:Int)+(p.pass.size:Int)+(p.will.topic.size:Int)+(p.will.payload.size:Int):=by rw[aQ];omega
 have HS:Hid ((p.topic.size:Int)+(p.payload.size:Int)+(p.client.size:Int)+(p.user.size:Int)+(p.pass.size:Int)+(p.will.topic.size:Int)+(p.will.payload.size:Int)=((szK p:Nat):Int)):=aa (by unfold szK;omega);have HSL:Hid (szK p<=985162418458624):=aa (by unfold szK;omega);go_wp2
 go_loopw [3,4] (fun n i wr=>∃k:Nat,k<=p.filters.length/\i= .int .i64 k/\n= .int .i64 ((szK p:Int)+(ft (p.filters.take k):Int))/\Below w2.heap.size w2 wr) (fun _ i _=>p.filters.length- (intOf i).toNat)
 case atStart=>exact⟨0,by omega,rfl,by rw[HS.o];simp[ft],aq _ _⟩
 case round=>
  obtain⟨k,hk,rfl,rfl,hbel⟩:=hrel;have HB3:=aa (HB2.o.trans (hbel.mono HB2.o.size));have HK3:=aa (HK2.o.below hbel HK2.o.lt)
  clear k2;have k3:=fun i=>HK3.o.cell i
  by_cases hlt:k<p.filters.length
  ·obtain⟨b,o,hA,hb,c0,c1,c2,c3,c4⟩:=((IP.o.below HB3.o).filters).atF hlt;have h2:=OK.o.topics p.filters[k] (iY hlt);have h3:=PU (p.filters.take k) (fun f hf=>OK.o.topics f (IU hf));rw[cY]at h3;have h3':ft (p.filters.take k)<=8444249301073920:=by have:=H4.o;omega
   have h5:=HSL.o;have HW:=aa (PJ p.filters k hlt);clear h3 c1 c2 c3 c4;generalize ft (p.filters.take k)=q at*;generalize p.filters[k]=f at*;have w1:IntKind.i64.wrap ((szK p:Int)+(q:Int)+(f.topic.size:Int))=(szK p:Int)+(q:Int)+(f.topic.size:Int):=by rw[aQ];omega
   have b1:(0:Int)<=(k:Int):=by omega
   have b2:(k:Int)<(p.filters.length:Int):=by omega
   go_wp2
   go_roundw
   case rel=>exact⟨k+1,by omega,by go_num,by rw[HW.o];go_num,hbel⟩
   case measure=>simp[intOf];omega
  ·obtain rfl:k=p.filters.length:=by omega
   go_wp2;go_ret;exact⟨by rw[HE4.o,GK];congr 2;simp;omega,HB3.o⟩
end
end Go.Proofs.YtbdgkkmbnahgiaaGreatDoor
